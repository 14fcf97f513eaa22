/-
  The engine, part E: more operations: struct and slice literals, append on a row of one's own, elements by their place.
-/
import Derived.Test.YtojkakpkmfopbaaEngD
import Derived.Maps.AppendAt
namespace Go.Eng
open Go.RowKit

theorem aN : ([] : List Value).all Value.oneCell' = true := rfl
theorem aC {a : Value} {l : List Value} (h : a.oneCell' = true) (hl : l.all Value.oneCell' = true) : (a :: l).all Value.oneCell' = true := by simp [h, hl]

section
variable {ρ : Env} {a b c d e f : Operand} {va vb vc vd ve vf : Value} {cap : List Value} {i j k l : Nat}
theorem ca0 : [] ++ ((#[] : Array Operand).toList.map (evO ρ)) ++ cap = cap := rfl
theorem ca1 (h1 : evO ρ a = va) : [] ++ ((#[a] : Array Operand).toList.map (evO ρ)) ++ cap = [va] ++ cap := by simp [h1]
theorem ca2 (h1 : evO ρ a = va) (h2 : evO ρ b = vb) : [] ++ ((#[a, b] : Array Operand).toList.map (evO ρ)) ++ cap = [va, vb] ++ cap := by simp [h1, h2]
theorem ca3 (h1 : evO ρ a = va) (h2 : evO ρ b = vb) (h3 : evO ρ c = vc) : [] ++ ((#[a, b, c] : Array Operand).toList.map (evO ρ)) ++ cap = [va, vb, vc] ++ cap := by simp [h1, h2, h3]
theorem ca4 (h1 : evO ρ a = va) (h2 : evO ρ b = vb) (h3 : evO ρ c = vc) (h4 : evO ρ d = vd) : [] ++ ((#[a, b, c, d] : Array Operand).toList.map (evO ρ)) ++ cap = [va, vb, vc, vd] ++ cap := by simp [h1, h2, h3, h4]
theorem mk0 : (#[] : Array Operand).map (evO ρ) = [].toArray := by simp
theorem mk1 (h1 : evO ρ a = va) : (#[a] : Array Operand).map (evO ρ) = [va].toArray := by simp [h1]
theorem mk2 (h1 : evO ρ a = va) (h2 : evO ρ b = vb) : (#[a, b] : Array Operand).map (evO ρ) = [va, vb].toArray := by simp [h1, h2]
theorem mk3 (h1 : evO ρ a = va) (h2 : evO ρ b = vb) (h3 : evO ρ c = vc) : (#[a, b, c] : Array Operand).map (evO ρ) = [va, vb, vc].toArray := by simp [h1, h2, h3]
theorem mk4 (h1 : evO ρ a = va) (h2 : evO ρ b = vb) (h3 : evO ρ c = vc) (h4 : evO ρ d = vd) : (#[a, b, c, d] : Array Operand).map (evO ρ) = [va, vb, vc, vd].toArray := by simp [h1, h2, h3, h4]
theorem mk5 (h1 : evO ρ a = va) (h2 : evO ρ b = vb) (h3 : evO ρ c = vc) (h4 : evO ρ d = vd) (h5 : evO ρ e = ve) : (#[a, b, c, d, e] : Array Operand).map (evO ρ) = [va, vb, vc, vd, ve].toArray := by simp [h1, h2, h3, h4, h5]
theorem mk6 (h1 : evO ρ a = va) (h2 : evO ρ b = vb) (h3 : evO ρ c = vc) (h4 : evO ρ d = vd) (h5 : evO ρ e = ve) (h6 : evO ρ f = vf) : (#[a, b, c, d, e, f] : Array Operand).map (evO ρ) = [va, vb, vc, vd, ve, vf].toArray := by simp [h1, h2, h3, h4, h5, h6]
/-- The parts of a literal, looked up. -/
def prts (ρ : Env) (ps : Array (Nat × Operand)) : List (Nat × Value) := ps.toList.map (fun p => (p.1, evO ρ p.2))
theorem mp0 : prts ρ #[] = [] := rfl
theorem mp1 (h1 : evO ρ a = va) : prts ρ #[(i, a)] = [(i, va)] := by simp [prts, h1]
theorem mp2 (h1 : evO ρ a = va) (h2 : evO ρ b = vb) : prts ρ #[(i, a), (j, b)] = [(i, va), (j, vb)] := by simp [prts, h1, h2]
theorem mp3 (h1 : evO ρ a = va) (h2 : evO ρ b = vb) (h3 : evO ρ c = vc) : prts ρ #[(i, a), (j, b), (k, c)] = [(i, va), (j, vb), (k, vc)] := by simp [prts, h1, h2, h3]
theorem mp4 (h1 : evO ρ a = va) (h2 : evO ρ b = vb) (h3 : evO ρ c = vc) (h4 : evO ρ d = vd) : prts ρ #[(i, a), (j, b), (k, c), (l, d)] = [(i, va), (j, vb), (k, vc), (l, vd)] := by simp [prts, h1, h2, h3, h4]
end

theorem wadd {a b : Nat} (h : a + b < 9223372036854775808) : IntKind.i64.wrap ((a : Int) + (b : Int)) = ((a + b : Nat) : Int) := by
  have : IntKind.i64.wrap ((a : Int) + (b : Int)) = (a : Int) + (b : Int) := IntWalk.i64_in _ (by omega)
  rw [this]; rfl
theorem wsub1 {a : Nat} (h : a < 9223372036854775807) : IntKind.i64.wrap (((a + 1 : Nat) : Int) - 1) = (a : Int) := by
  have : IntKind.i64.wrap (((a + 1 : Nat) : Int) - 1) = ((a + 1 : Nat) : Int) - 1 := IntWalk.i64_in _ (by omega)
  rw [this]; omega
theorem wrapI_i64 {a : Int} (h1 : -9223372036854775808 ≤ a) (h2 : a ≤ 9223372036854775807) : IntKind.i64.wrap a = a := IntWalk.i64_in _ (by omega)

def placesB (P : Program) (t : TypeId) : Option (List (Nat × Nat)) :=
  match P.underlying t with
  | some (.struct fs) => fs.toList.mapM (fun f => (sizeB P f.type).map (fun n => (f.offset, n)))
  | _ => none

section
variable {P : Program} {ρ : Env} {w : World} {K : Value → World → Prop} {d : Option Tmp} {ty : TypeId} {pos : String} {after : Array Edge} {gd : Option (Nat × Bool)}
variable {Z : Nat → Prop} {w0 : World} {L : List Res}

theorem run_places : ∀ (fs : List Field) (pl : List (Nat × Nat)), fs.mapM (fun f => (sizeB P f.type).map (fun n => (f.offset, n))) = some pl →
    (fs.mapM (fun f => (do pure (f.offset, ← sizeOf f.type) : Sem (Nat × Nat)))).run P w = .ok pl w
  | [], pl, h => by simp at h; subst h; simp
  | f :: fs, pl, h => by
    simp only [List.mapM_cons, Option.bind_eq_bind, Option.bind_eq_some_iff, Option.map_eq_some_iff] at h
    obtain ⟨p, ⟨n, hn, rfl⟩, ps, hps, hpl⟩ := h
    have ih := run_places fs ps hps
    simp only [Option.pure_def, Option.some.injEq] at hpl
    subst hpl
    simp only [List.mapM_cons, Sem.run_bind, run_sizeOf hn, Result.andThen_ok, Sem.run_pure]
    rw [ih]
    simp

theorem OpT.build {t : TypeId} {ps : Array (Nat × Operand)} {z : Value} {pl : List (Nat × Nat)} (parts : List (Nat × Value)) (cs : List Value) (hz : zeroB P t = some z) (hp : placesB P t = some pl)
    (he : prts ρ ps = parts) (hf : Instr.fill (fun i => pl[i]?) z.cells parts = some cs.toArray) (hK : K (.agg cs.toArray) w) : OpT P ⟨d, .build t ps, ty, pos, after, gd⟩ ρ w K := by
  refine OpT.val (v := .agg cs.toArray) ?_ hK
  unfold placesB at hp
  split at hp
  · rename_i fs hs
    have hm := run_places (P := P) (w := w) fs.toList pl hp
    have e : (ps.map (fun x => (x.1, evO ρ x.2))).toList = parts := by rw [← he]; simp [prts]
    have hm2 : (fs.mapM (fun f => (do pure (f.offset, ← sizeOf f.type) : Sem (Nat × Nat)))).run P w = .ok pl.toArray w := by
      rw [← Array.toArray_toList (xs := fs), List.mapM_toArray, Sem.run_map, hm]
      rfl
    simp only [execOp, Instr.build, Sem.run_bind, run_zeroValue hz, Result.andThen_ok, run_underlying hs, hm2]
    simp only [e]
    have e2 : (fun x : Nat => pl.toArray[x]?) = (fun i : Nat => pl[i]?) := by funext i; simp
    rw [e2, hf]
    rfl
  · cases hp

theorem OpT.buildSlice {t e n : Nat} {ps : Array (Nat × Operand)} {z : Value} {sz : Nat} (st : St Z w0 w L) (parts : List (Nat × Value)) (cs : List Value) (hu : P.underlying t = some (.slice e)) (hs : sizeB P e = some sz) (hz : zeroB P e = some z)
    (he : prts ρ ps = parts) (hf : Instr.fill (fun i => some (i * sz, sz)) ((Array.range (n * sz)).map (z.cells[· % z.cells.size]!)) parts = some cs.toArray) (hn : n * sz ≤ 16777216 ∧ 0 < n * sz)
    (hK : ∀ b w', St Z w0 w' (Blk b e cs :: L) → K (.slice (some ⟨b, 0, none⟩) n n) w') : OpT P ⟨d, .buildSlice t n ps, ty, pos, after, gd⟩ ρ w K := by
  have hst := st.alloc e cs
  refine OpT.val (v := .slice (some ⟨w.heap.size, 0, none⟩) n n) (w' := w.alloc (.cells cs.toArray e)) ?_ (hK _ _ hst)
  have e1 : (ps.map (fun x => (x.1, evO ρ x.2))).toList = parts := by rw [← he]; simp [prts]
  have h1 : ¬ (n * sz > 2 ^ 24) := by omega
  have h2 : ¬ (n * sz = 0) := by omega
  simp only [execOp, Instr.buildSlice, Sem.run_bind, run_underlying hu, Result.andThen_ok, run_sizeOf hs, h1, if_false, h2, run_zeroValue hz, Sem.run_pure, e1, hf, newRow, run_newObj, World.alloc_eq]

theorem OpT.idxX {α : Type} {r : Rl α} {t e : Nat} {x ix : Operand} {v : Value} {xs : List α} {y : α} (hu : P.underlying t = some (.slice e)) (hs : sizeB P e = some r.sz) (h : r.sl Z w0 v xs) (hx : evO ρ x = v) (kd : IntKind) (i : Nat) (hi : evO ρ ix = .int kd i) (hy : xs[i]? = some y)
    (hK : ∀ ad cs, RowZ Z w0 ad cs → r.R Z w0 cs y → K (.pointer (some ad)) w) : OpT P ⟨d, .indexAddr t x ix, ty, pos, after, gd⟩ ρ w K := by
  obtain ⟨A, c, rfl, hn, hg⟩ := h
  have hlt : i < xs.length := (List.getElem?_eq_some_iff.1 hy).1
  obtain ⟨ad, cs, rfl, hr, hR⟩ := hg i _ hy
  exact OpT.idx r.sz ad _ xs.length c kd i hu hs hx hi (by omega) (by omega) (by rw [Int.toNat_natCast]) (hK _ _ hr hR)
theorem OpT.notP {t : TypeId} {x : Operand} (p : Prop) [Decidable p] (hx : evO ρ x = .bool (decide p)) (hK : K (.bool (decide (¬ p))) w) : OpT P ⟨d, .unOp .not t x, ty, pos, after, gd⟩ ρ w K := by
  refine OpT.not (decide p) hx ?_
  rwa [← decide_not]

/-- An element opened ahead of its use. -/
def Rl.El {α : Type} (r : Rl α) (v : Value) (n i : Nat) (ad : Addr) : Prop := ∃ a c, v = .slice (some a) n c ∧ ad = a.add (i * r.sz) ∧ i < n ∧ n ≤ 140737488355328
theorem Rl.sl_el {α : Type} {r : Rl α} {v : Value} {xs : List α} {i : Nat} {y : α} (h : r.sl Z w0 v xs) (hy : xs[i]? = some y) : ∃ ad cs, r.El v xs.length i ad ∧ RowZ Z w0 ad cs ∧ r.R Z w0 cs y := by
  obtain ⟨A, c, rfl, hn, hg⟩ := h
  obtain ⟨ad, cs, rfl, hr, hR⟩ := hg i _ hy
  exact ⟨_, cs, ⟨ad, c, rfl, rfl, (List.getElem?_eq_some_iff.1 hy).1, hn⟩, hr, hR⟩
theorem OpT.idxE {α : Type} {r : Rl α} {t e : Nat} {x ix : Operand} {v : Value} {n : Nat} {ad : Addr} (hu : P.underlying t = some (.slice e)) (hs : sizeB P e = some r.sz) (hx : evO ρ x = v) (kd : IntKind) (i : Nat) (hi : evO ρ ix = .int kd i) (h : r.El v n i ad)
    (hK : K (.pointer (some ad)) w) : OpT P ⟨d, .indexAddr t x ix, ty, pos, after, gd⟩ ρ w K := by
  obtain ⟨a, c, rfl, rfl, hlt, hn⟩ := h
  exact OpT.idx r.sz a _ n c kd i hu hs hx hi (by omega) (by omega) (by rw [Int.toNat_natCast]) hK
/-- append(v, x): v one's own row; x's cells lie in a block at hand. -/
theorem OpT.append {t e sz n b : Nat} {x y : Operand} {z v : Value} {cs xs : List Value} {by_ : Nat} (st : St Z w0 w (Blk b e xs :: Row e sz v n cs :: L)) (m : Nat) (hu : P.underlying t = some (.slice e)) (hs : sizeB P e = some sz) (hz : zeroB P e = some z) (hzc : z.cells.size = sz) (hb : (P.info? e).map (·.bytes) = some by_) (h0 : 0 < sz)
    (hx : evO ρ x = v) (hy : evO ρ y = .slice (some ⟨b, 0, none⟩) m m) (hm : xs.length = m * sz) (h1 : xs.all Value.oneCell' = true) (hl : (n + m) * by_ ≤ 140737488355328) (hl2 : n + m ≤ 140737488355328)
    (hK : ∀ v' w', St Z w0 w' (Row e sz v' (n + m) (cs ++ xs) :: L) → (v' = .slice none 0 0 ↔ v = .slice none 0 0 ∧ m = 0) → K v' w') : OpT P ⟨d, .call ⟨.builtin .append, #[x, y], #[t, t]⟩, ty, pos, after, gd⟩ ρ w K := by
  obtain ⟨i, hi, hsz⟩ := Option.map_eq_some_iff.1 hs
  have hz' : i.zero = some z := by
    unfold zeroB at hz
    rw [hi] at hz
    exact hz
  have hb' : i.bytes = by_ := by rw [hi] at hb; simpa using hb
  have hrow := st.row (i := 1) rfl
  have hcell : ∀ j u, xs[j]? = some u → w.cell? ((⟨b, 0, none⟩ : Addr).add j) = some u := st.rowB (i := 0) rfl
  obtain ⟨v', w', hr, hown, hg, hnil, hat⟩ := run_append_own_at (P := P) w 0 t ty e i z sz by_ hu hi hz' hsz hb' hzc h0 v n cs hrow ⟨b, 0, none⟩ m m xs hm hcell (by simpa using h1) (by simp only [maxLen]; omega) hl (Nat.zero_le _)
  refine OpT.val (v := v') (w' := w') ?_ (hK v' w' ?_ hnil)
  · simp only [execOp, resolve, invoke, builtin, Sem.run_bind, Sem.run_pure, Result.andThen_ok, List.map_toArray, List.map_cons, List.map_nil, hx, hy, hr]
  · have st2 : St Z w0 w (Row e sz v n cs :: L) := by
      have := St.selT (L := L) [Blk b e xs, Row e sz v n cs] [1] rfl (by decide) st
      exact this
    obtain ⟨S, ⟨hS, _⟩, hlt, H⟩ := st2.focus (i := 0) rfl
    refine H w' (Row e sz v' (n + m) (cs ++ xs)) (fun k => v'.ownBlock = some k) hg.os hg.tape hg.output hg.size (fun k hk hns => hg.block k hk (fun h => hns ((hS k).2 h.symm))) ⟨fun _ => Iff.rfl, hown⟩ ?_
    intro k hk
    have hlt' : k < w'.heap.size := by
      rcases hown.2 with ⟨rfl, _⟩ | ⟨g, cap, cur, rfl, _, hgg, _⟩
      · simp [Value.ownBlock] at hk
      · simp [Value.ownBlock] at hk
        subst hk
        exact (Array.getElem?_eq_some_iff.1 hgg).1
    refine ⟨hlt', ?_⟩
    rcases hat with h | h
    · exact .inl ((hS k).2 (h ▸ hk))
    · rw [h] at hk
      simp at hk
      right; omega
end
end Go.Eng
