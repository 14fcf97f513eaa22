/-
  The engine for fixed runs: loops unrolled, calls walked in place, rows opened, maps gone through.
-/
import Derived.Test.YtojkakpkmfopbaaEngM
import Derived.ScopeJumps
import Derived.Maps.RangeRun
import Derived.Laws.Slices
import Derived.Laws.MakeOwn
import Derived.Laws.Small
namespace Go.Eng
open Go.RowKit
section
variable {P : Program} {n : Nat} {Q : QP} {ρ : Env} {w : World}
/-! loops and scopes, unrolled -/
def unrQ (I : Env → World → Prop) (Q : QP) : QP
  | .normal, ρ, w => I ρ w
  | e, ρ, w => Q e ρ w
def UL (P : Program) (n : Nat) (c : Code) (Q : QP) : Nat → Env → World → Prop
  | 0, _, _ => False
  | k + 1, ρ, w => WC P n c (unrQ (UL P n c Q k) Q) ρ w
theorem WC.unroll {c : Code} (k : Nat) (h : UL P n c Q k ρ w) : WC P n (.loop c) Q ρ w := by
  refine WC.loop (UL P n c Q) k h ?_
  intro m ρ w hI
  cases m with
  | zero => exact hI.elim
  | succ m =>
    refine WC.mono hI ?_
    intro e ρ w h
    cases e <;> first | exact ⟨m, Nat.lt_succ_self _, h⟩ | exact h
theorem UL.go {c : Code} {k : Nat} (h : WC P n c (unrQ (UL P n c Q k) Q) ρ w) : UL P n c Q (k + 1) ρ w := h
theorem unrQ_n {I : Env → World → Prop} (h : I ρ w) : unrQ I Q .normal ρ w := h
theorem unrQ_x {I : Env → World → Prop} {i : Nat} (h : Q (.exit i) ρ w) : unrQ I Q (.exit i) ρ w := h
theorem unrQ_r {I : Env → World → Prop} (h : Q .ret ρ w) : unrQ I Q .ret ρ w := h
theorem unrQ_g {I : Env → World → Prop} {l : Nat} (h : Q (.goto l) ρ w) : unrQ I Q (.goto l) ρ w := h
def jmpQ (l : Nat) (J : Env → World → Prop) (Q : QP) : QP
  | .goto l', ρ, w => l' = l ∧ J ρ w
  | e, ρ, w => Q e ρ w
theorem jmpQ_n {l : Nat} {J : Env → World → Prop} (h : Q .normal ρ w) : jmpQ l J Q .normal ρ w := h
theorem jmpQ_r {l : Nat} {J : Env → World → Prop} (h : Q .ret ρ w) : jmpQ l J Q .ret ρ w := h
theorem jmpQ_g {l : Nat} {J : Env → World → Prop} (h : J ρ w) : jmpQ l J Q (.goto l) ρ w := ⟨rfl, h⟩
def US (P : Program) (n : Nat) (l : Nat) (c : Code) (Q : QP) : Nat → Env → World → Prop
  | 0, _, _ => False
  | k + 1, ρ, w => WC P n c (jmpQ l (US P n l c Q k) Q) ρ w
theorem US.go {c : Code} {l k : Nat} (h : WC P n c (jmpQ l (US P n l c Q k) Q) ρ w) : US P n l c Q (k + 1) ρ w := h
theorem WC.scope {c rest : Code} (l k : Nat) (hf : findLabel c l = some rest) (h : WC P n c (jmpQ l (US P n l rest Q k) Q) ρ w) : WC P n (.scope c) Q ρ w := by
  intro a ha
  classical
  let J : Act → World → Prop := fun a w => ∃ m ρ, Fr a n ρ ∧ US P n l rest Q m ρ w
  let μ : Act → World → Nat := fun a w => if h : J a w then Classical.choose (least_of (p := fun m => ∃ ρ, Fr a n ρ ∧ US P n l rest Q m ρ w) h) else 0
  refine wp_scope_jumps l J μ hf (wp_mono (h a ha) ?_) ?_
  · rintro e a' w' ⟨ρ', hf', hq⟩
    cases e <;> first | exact ⟨hq.1, _, ρ', hf', hq.2⟩ | exact ⟨ρ', hf', hq⟩
  · intro a w hJ
    have hs : ∃ ρ, Fr a n ρ ∧ US P n l rest Q (μ a w) ρ w := by
      show ∃ ρ, Fr a n ρ ∧ US P n l rest Q (if h : J a w then _ else 0) ρ w
      rw [dif_pos hJ]
      exact (Classical.choose_spec (least_of (p := fun m => ∃ ρ, Fr a n ρ ∧ US P n l rest Q m ρ w) hJ)).1
    obtain ⟨ρ, hfr, hu⟩ := hs
    generalize hm : μ a w = m at hu
    cases m with
    | zero => exact hu.elim
    | succ m =>
      refine wp_mono (hu a hfr) ?_
      rintro e a' w' ⟨ρ', hf', hq⟩
      cases e with
      | goto l' =>
        refine ⟨hq.1, ⟨m, ρ', hf', hq.2⟩, ?_⟩
        have hJ' : J a' w' := ⟨m, ρ', hf', hq.2⟩
        show (if h : J a' w' then _ else 0) < m + 1
        rw [dif_pos hJ']
        exact Nat.lt_succ_of_le ((Classical.choose_spec (least_of (p := fun m => ∃ ρ, Fr a' n ρ ∧ US P n l rest Q m ρ w') hJ')).2 m ⟨ρ', hf', hq.2⟩)
      | _ => exact ⟨ρ', hf', hq⟩
end
section
variable {P : Program} {ρ : Env} {w : World} {K : Value → World → Prop} {d : Option Tmp} {ty : TypeId} {pos : String} {after : Array Edge} {gd : Option (Nat × Bool)}
variable {Z : Nat → Prop} {w0 : World} {L : List Res}
/-- A call that is walked in place. -/
theorem OpT.callC {f : Operand} {as : Array Operand} {tys : Array TypeId} {k : Nat} (ok : CallOk P k) (first cap args : List Value) (hx : evO ρ f = .func (.func k) first.toArray cap.toArray)
    (ha : first ++ (as.toList.map (evO ρ)) ++ cap = args) (hc : Calls P k args.toArray w (Ret K)) : OpT P ⟨d, .call ⟨.value f, as, tys⟩, ty, pos, after, gd⟩ ρ w K := by
  obtain ⟨fn, h1, h2, h3⟩ := ok.ok
  exact OpT.call k first cap args fn h1 h2 h3 hx ha hc
theorem OpT.lenMap {κ α : Type} {kf : κ → Value} {vf : α → Value} {t k e b : Nat} {x : Operand} {tys : Array TypeId} {m : List (κ × α)} (st : St Z w0 w L) (i : Nat) (hi : L[i]? = some (Mp kf vf b m)) (ht : tys[0]? = some t) (hu : P.underlying t = some (.map k e)) (hx : evO ρ x = .map (some b))
    (hK : K (.int .i64 m.length) w) : OpT P ⟨d, .call ⟨.builtin .len, #[x], tys⟩, ty, pos, after, gd⟩ ρ w K := by
  obtain ⟨S, ⟨hS, es, clock, hb, hm, _⟩, _⟩ := st.focus hi
  have e1 : es.size = m.length := by have := congrArg List.length hm; simpa using this
  exact OpT.val (v := .int .i64 m.length) (by simp [execOp, resolve, invoke, builtin, Builtin.len_, hx, ht, run_underlying hu, MapKept.run_getObj_map hb, goInt, e1]) hK
theorem OpT.minI {x y : Operand} {tys : Array TypeId} (k : IntKind) (a b : Int) (hx : evO ρ x = .int k a) (hy : evO ρ y = .int k b) (hK : K (.int k (if b < a then b else a)) w) : OpT P ⟨d, .call ⟨.builtin .min, #[x, y], tys⟩, ty, pos, after, gd⟩ ρ w K :=
  OpT.val (v := .int k (if b < a then b else a)) (by simp [execOp, resolve, invoke, builtin, hx, hy, run_min_int2]) hK
/-- s[0:] and s[:0] .. -/
theorem OpT.sliceLo0 {t e sz : Nat} {x lo : Operand} {b n c : Nat} (hu : P.underlying t = some (.slice e)) (hs : sizeB P e = some sz) (hx : evO ρ x = .slice (some ⟨b, 0, none⟩) n c) (hl : evO ρ lo = .int .i64 0) (hK : K (.slice (some ⟨b, 0, none⟩) n c) w) :
    OpT P ⟨d, .slice t x (some lo) none none, ty, pos, after, gd⟩ ρ w K := by
  have he : P.elem t = e := by simp [Program.elem, hu]
  have hu' : P.underlying t = some (.slice (P.elem t)) := by rw [he]; exact hu
  refine OpT.val (v := .slice (some ⟨b, 0, none⟩) n c) ?_ hK
  simp only [execOp, hx, hl, Sem.run_bind, Option.map_some, Option.map_none, run_sliceAt_slice (h := hu'), run_slice_l (ht := hu') (h0 := Int.le_refl 0) (h1 := Int.natCast_nonneg n), he, run_sizeOf hs, Result.andThen_ok, Sem.run_pure]
  simp [sliced, Addr.add]
theorem OpT.sliceHi {t e sz : Nat} {x hi : Operand} {A : Option Addr} {n c : Nat} (h : Nat) (hu : P.underlying t = some (.slice e)) (hs : sizeB P e = some sz) (hx : evO ρ x = .slice A n c) (hl : evO ρ hi = .int .i64 h) (hc : h ≤ c) (hA : A.map (·.add 0) = A) (hK : K (.slice A h c) w) :
    OpT P ⟨d, .slice t x none (some hi) none, ty, pos, after, gd⟩ ρ w K := by
  have he : P.elem t = e := by simp [Program.elem, hu]
  have hu' : P.underlying t = some (.slice (P.elem t)) := by rw [he]; exact hu
  refine OpT.val (v := .slice A h c) ?_ hK
  simp only [execOp, hx, hl, Sem.run_bind, Option.map_some, Option.map_none, run_sliceAt_slice (h := hu'), run_slice_h (ht := hu') (h0 := Int.natCast_nonneg h) (h2 := Int.ofNat_le.2 hc), he, run_sizeOf hs, Result.andThen_ok, Sem.run_pure]
  simp [sliced, hA]
theorem St.map1 {r r' : Res} (h : ∀ w S, r.P w S → r'.P w S) (st : St Z w0 w (r :: L)) : St Z w0 w (r' :: L) := by
  obtain ⟨F, h1, h2, h3⟩ := st.sep
  refine ⟨st.os, st.tape, st.output, st.size, st.dom, st.old, F, ?_, h2, h3⟩
  intro i q hq
  cases i with
  | zero => simp at hq; subst hq; exact h _ _ (h1 0 _ rfl)
  | succ i => exact h1 (i + 1) q (by simpa using hq)
/-- A row is opened: its block, with what lies behind it. -/
theorem St.openRow {e sz n : Nat} {v : Value} {cs : List Value} (h0 : 0 < n) (st : St Z w0 w (Row e sz v n cs :: L)) :
    ∃ g cap ex, v = .slice (some ⟨g, 0, none⟩) n cap ∧ n * sz + ex.length = cap * sz ∧ n ≤ cap ∧ cap ≤ maxLen ∧ St Z w0 w (Blk g e (cs ++ ex) :: L) := by
  obtain ⟨hl, hr⟩ := st.row (i := 0) rfl
  rcases hr with ⟨_, h⟩ | ⟨g, cap, cur, rfl, _, hg, h1, h2, h3, h4⟩
  · omega
  · have h5 : n * sz ≤ cap * sz := Nat.mul_le_mul_right _ h1
    refine ⟨g, cap, cur.toList.drop (n * sz), rfl, ?_, h1, h2, ?_⟩
    · rw [List.length_drop, Array.length_toList, h3]; omega
    · obtain ⟨F, f1, f2, f3⟩ := st.sep
      refine ⟨st.os, st.tape, st.output, st.size, st.dom, st.old, F, ?_, f2, f3⟩
      intro i q hq
      cases i with
      | zero =>
        simp at hq; subst hq
        obtain ⟨hS, _⟩ := f1 0 _ rfl
        refine ⟨fun k => by rw [hS k]; simp [Value.ownBlock, eq_comm], ?_⟩
        rw [hg, ← h4, List.take_append_drop]
      | succ i => exact f1 (i + 1) q (by simpa using hq)
/-- .. and shut again. -/
theorem St.shutRow {e sz n g cap : Nat} {cs cells : List Value} (st : St Z w0 w (Blk g e cells :: L)) (hl : cells.length = cap * sz) (h1 : n ≤ cap) (h2 : cap ≤ maxLen) (ht : cells.take (n * sz) = cs) : St Z w0 w (Row e sz (.slice (some ⟨g, 0, none⟩) n cap) n cs :: L) := by
  refine St.map1 (r := Blk g e cells) ?_ st
  rintro w S ⟨hS, hg⟩
  refine ⟨fun k => by rw [hS k]; simp [Value.ownBlock, eq_comm], ?_, .inr ⟨g, cap, cells.toArray, rfl, Nat.zero_le _, hg, h1, h2, by simpa using hl, by simpa using ht⟩⟩
  rw [← ht, List.length_take, hl]
  exact Nat.min_eq_left (Nat.mul_le_mul_right _ h1)
/-- make([]T, n) -/
theorem OpT.makeSliceN {t e : Nat} {l c : Operand} {z : Value} {sz by_ : Nat} (n : Nat) (cs : List Value) (st : St Z w0 w L) (hu : P.underlying t = some (.slice e)) (hs : sizeB P e = some sz) (hz : zeroB P e = some z) (hb : (P.info? e).map (·.bytes) = some by_) (hl : evO ρ l = .int .i64 n) (hc : evO ρ c = .int .i64 n)
    (hcs : (madeCells z.cells (n * sz)).toList = cs) (h1 : by_ * n ≤ 281474976710656) (h2 : n ≤ 9223372036854775807) (h3 : n * sz ≤ 16777216) (hK : ∀ b w', St Z w0 w' (Blk b e cs :: L) → K (.slice (some ⟨b, 0, none⟩) n n) w') : OpT P ⟨d, .makeSlice t l c, ty, pos, after, gd⟩ ρ w K := by
  obtain ⟨i, hi, hsz⟩ := Option.map_eq_some_iff.1 hs
  have hz' : i.zero = some z := by unfold zeroB at hz; rw [hi] at hz; exact hz
  have hb' : i.bytes = by_ := by rw [hi] at hb; simpa using hb
  subst hsz hb'
  have hq : (i.bytes : Int) * (n : Int) ≤ 281474976710656 := by
    have h : ((i.bytes * n : Nat) : Int) ≤ 281474976710656 := by omega
    rwa [Int.natCast_mul] at h
  have hr := run_makeSlice (P := P) (w := w) t e i z hu hi hz' .i64 .i64 n n (by omega) (Int.le_refl _) (by simpa using h3) hq (by omega)
  simp only [Int.toNat_natCast] at hr
  refine OpT.val (v := .slice (some ⟨w.heap.size, 0, none⟩) n n) (w' := w.alloc (.cells (madeCells z.cells (n * i.size)) e)) (by simp only [execOp, hl, hc, Sem.run_bind, hr, Result.andThen_ok, Sem.run_pure]) (hK _ _ ?_)
  have := st.alloc e cs
  rw [← hcs] at this ⊢
  simpa using this
/-! a map gone through -/
/-- A map and a walk over it; left: what is still to come; cur: what came last. -/
def MpIt {κ α : Type} (kf : κ → Value) (vf : α → Value) (b r : Nat) (m left : List (κ × α)) (cur : Option (κ × α)) : Res where
  P w S := (∀ k, S k ↔ (k = b ∨ k = r)) ∧ b ≠ r ∧ ∃ es clock since seen c0, w.heap[b]? = some (.map es clock) ∧ w.heap[r]? = some (.mapIter (some b) since seen c0) ∧ es.toList.map (fun e => (e.key, e.val)) = m.map (fun p => (kf p.1, vf p.2)) ∧
    (es.toList.map (fun e : MapEntry => e.born)).Pairwise (· < ·) ∧ (∀ e ∈ es.toList, e.born < clock) ∧ (∀ e ∈ es.toList, e.born < since) ∧ (since ≤ c0 ∧ since ≤ clock) ∧ (leftOf es seen).toList.map (fun e => (e.key, e.val)) = left.map (fun p => (kf p.1, vf p.2)) ∧
    (∀ p, cur = some p → ∃ e ∈ es.toList, ∃ seen' : Array Nat, seen = seen'.push e.born ∧ c0 = clock ∧ e.key = kf p.1 ∧ e.val = vf p.2)
  loc := fun ⟨h0, hne, es, clock, since, seen, c0, h1, h2, h3⟩ h => ⟨h0, hne, es, clock, since, seen, c0, (h b ((h0 b).2 (.inl rfl))).trans h1, (h r ((h0 r).2 (.inr rfl))).trans h2, h3⟩
theorem leftOf_nil (es : Array MapEntry) : leftOf es #[] = es := by
  unfold leftOf
  exact Array.filter_eq_self.2 (fun x _ => by simp)
theorem leftOf_push (es : Array MapEntry) (seen : Array Nat) (b : Nat) : (leftOf es (seen.push b)).toList = (leftOf es seen).toList.filter (fun e => decide (e.born ≠ b)) := by
  unfold leftOf
  rw [Array.toList_filter, Array.toList_filter, List.filter_filter]
  refine List.filter_congr (fun x _ => ?_)
  by_cases h1 : x.born = b <;> simp [h1]
theorem filter_one : ∀ (l : List MapEntry) (e : MapEntry), (l.map (fun e => e.born)).Nodup → e ∈ l → ∃ A B, l = A ++ e :: B ∧ l.filter (fun x => decide (x.born ≠ e.born)) = A ++ B := by
  intro l e hn he
  obtain ⟨A, B, rfl⟩ := List.append_of_mem he
  refine ⟨A, B, rfl, ?_⟩
  rw [List.map_append, List.map_cons, List.nodup_append] at hn
  obtain ⟨_, h2, h3⟩ := hn
  have h4 := List.nodup_cons.1 h2
  rw [List.filter_append, List.filter_cons]
  simp only [ne_eq, not_true_eq_false, decide_false, Bool.false_eq_true, if_false]
  rw [List.filter_eq_self.2, List.filter_eq_self.2]
  · intro x hx
    simp only [decide_eq_true_eq]
    exact fun h => h4.1 (h ▸ List.mem_map_of_mem hx)
  · intro x hx
    simp only [decide_eq_true_eq]
    exact fun h => h3 _ (List.mem_map_of_mem hx) _ (List.mem_cons_self) h
theorem OpT.range {κ α : Type} {kf : κ → Value} {vf : α → Value} {t k e b : Nat} {x : Operand} {m : List (κ × α)} (st : St Z w0 w (Mp kf vf b m :: L)) (hu : P.underlying t = some (.map k e)) (hx : evO ρ x = .map (some b))
    (hK : ∀ r w', St Z w0 w' (MpIt kf vf b r m m none :: L) → K (.pointer (some ⟨r, 0, none⟩)) w') : OpT P ⟨d, .range t x, ty, pos, after, gd⟩ ρ w K := by
  obtain ⟨S, ⟨hS, es, clock, hb, hm, hp, hc⟩, hlt, H⟩ := st.focus (i := 0) rfl
  have hbl : b < w.heap.size := (hlt b ((hS b).2 rfl)).1
  refine OpT.val (v := .pointer (some ⟨w.heap.size, 0, none⟩)) (w' := w.alloc (.mapIter (some b) clock #[] clock)) (by simp only [execOp, hx, Sem.run_bind, run_range_map w t k e b es clock hu hb, Result.andThen_ok, Sem.run_pure]) (hK _ _ ?_)
  refine H _ _ (fun k => k = b ∨ k = w.heap.size) rfl rfl rfl (by simp) (fun k hk _ => heap_alloc_old w _ hk) ?_ ?_
  · refine ⟨fun _ => Iff.rfl, by omega, es, clock, clock, #[], clock, (heap_alloc_old w _ hbl).trans hb, heap_alloc_new w _, hm, hp, hc, hc, ⟨Nat.le_refl _, Nat.le_refl _⟩, by rw [leftOf_nil]; exact hm, fun p hp => by cases hp⟩
  · rintro k (rfl | rfl)
    · exact ⟨by simp; omega, .inl ((hS _).2 rfl)⟩
    · exact ⟨by simp, .inr (Nat.le_refl _)⟩
theorem heap_setBlock (w : World) (r k : Nat) (o : Obj) : (Go.ChangeMaps.setBlock w r o).heap[k]? = if r = k ∧ k < w.heap.size then some o else w.heap[k]? := by
  simp only [Go.ChangeMaps.setBlock, Array.getElem?_setIfInBounds]
  by_cases h : r = k
  · subst h
    by_cases h2 : r < w.heap.size
    · simp [h2]
    · simp [h2]
  · simp [h]
theorem OpT.next {κ α : Type} {kf : κ → Value} {vf : α → Value} {b r : Nat} {x : Operand} {m left : List (κ × α)} {cur : Option (κ × α)} (st : St Z w0 w (MpIt kf vf b r m left cur :: L)) (hx : evO ρ x = .pointer (some ⟨r, 0, none⟩))
    (hE : left = [] → K (.tuple #[.bool false]) w) (hK : ∀ A p B w', left = A ++ p :: B → St Z w0 w' (MpIt kf vf b r m (A ++ B) (some p) :: L) → K (.tuple #[.bool true, kf p.1, vf p.2]) w') : OpT P ⟨d, .next x false, ty, pos, after, gd⟩ ρ w K := by
  obtain ⟨S, ⟨hS, hne, es, clock, since, seen, c0, hb, hr, hm, hp, hc, hold, ⟨hsc, hscl⟩, hl, _⟩, hlt, H⟩ := st.focus (i := 0) rfl
  rcases run_next_at (P := P) w ty r b since c0 seen es clock hr hb hold hsc with ⟨h0, hrun⟩ | ⟨e, he, w1, hw1, hrun⟩
  · refine OpT.val (v := .tuple #[.bool false]) (by simp only [execOp, hx, Sem.run_bind, hrun, Result.andThen_ok, Sem.run_pure]) (hE ?_)
    have : (leftOf es seen).toList = [] := by rw [← List.length_eq_zero_iff]; simpa using h0
    rw [this] at hl
    simpa using hl.symm
  · have hsub : ∀ x ∈ (leftOf es seen).toList, x ∈ es.toList := fun x hx => by
      unfold leftOf at hx
      rw [Array.toList_filter] at hx
      exact (List.mem_filter.1 hx).1
    have hnd : ((leftOf es seen).toList.map (fun e => e.born)).Nodup := by
      unfold leftOf
      rw [Array.toList_filter]
      have h1 : (es.toList.map (fun e : MapEntry => e.born)).Nodup := hp.imp (fun h => Nat.ne_of_lt h)
      exact List.Nodup.sublist (List.Sublist.map _ List.filter_sublist) h1
    obtain ⟨A, B, eL, eF⟩ := filter_one _ e hnd he
    rw [eL, List.map_append, List.map_cons] at hl
    obtain ⟨A', r', e1, hA, hr'⟩ := List.map_eq_append_iff.1 hl.symm
    obtain ⟨p, B', e2, hpe, hB⟩ := List.map_eq_cons_iff.1 hr'
    subst e1 e2
    simp only [Prod.mk.injEq] at hpe
    have h1 : w1.heap = w.heap := by rcases hw1 with rfl | rfl <;> rfl
    have hsz : (Go.ChangeMaps.setBlock w1 r (.mapIter (some b) since (seen.push e.born) clock)).heap.size = w.heap.size := by simp [Go.ChangeMaps.setBlock, h1]
    have hg : ∀ k, (Go.ChangeMaps.setBlock w1 r (.mapIter (some b) since (seen.push e.born) clock)).heap[k]? = if r = k ∧ k < w.heap.size then some (.mapIter (some b) since (seen.push e.born) clock) else w.heap[k]? := by
      intro k; rw [heap_setBlock, h1]
    have hrl : r < w.heap.size := (hlt r ((hS r).2 (.inr rfl))).1
    refine OpT.val (v := .tuple #[.bool true, e.key, e.val]) (w' := Go.ChangeMaps.setBlock w1 r (.mapIter (some b) since (seen.push e.born) clock)) (by simp only [execOp, hx, Sem.run_bind, hrun, Result.andThen_ok, Sem.run_pure]) ?_
    rw [← hpe.1, ← hpe.2]
    refine hK A' p B' _ rfl ?_
    refine H _ _ S ?_ ?_ ?_ (by rw [hsz]; exact Nat.le_refl _) ?_ ?_ (fun k hk => ⟨by rw [hsz]; exact (hlt k hk).1, .inl hk⟩)
    · rcases hw1 with rfl | rfl <;> rfl
    · rcases hw1 with rfl | rfl <;> rfl
    · rcases hw1 with rfl | rfl <;> rfl
    · intro k hk hn
      rw [hg, if_neg]
      rintro ⟨rfl, _⟩
      exact hn ((hS _).2 (.inr rfl))
    · refine ⟨hS, hne, es, clock, since, seen.push e.born, clock, by rw [hg, if_neg (fun h => hne h.1.symm)]; exact hb, by rw [hg, if_pos ⟨rfl, hrl⟩], hm, hp, hc, hold, ?_, ?_, ?_⟩
      · exact ⟨hscl, hscl⟩
      · rw [leftOf_push, eF, List.map_append, List.map_append, hA, hB]
      · intro q hq
        cases hq
        exact ⟨e, hsub e he, seen, rfl, rfl, hpe.1.symm, hpe.2.symm⟩
theorem OpT.entry {κ α : Type} {kf : κ → Value} {vf : α → Value} {b r : Nat} {x : Operand} {m left : List (κ × α)} {p : κ × α} (st : St Z w0 w (MpIt kf vf b r m left (some p) :: L)) (hx : evO ρ x = .pointer (some ⟨r, 0, none⟩))
    (hK : K (.tuple #[kf p.1, vf p.2]) w) : OpT P ⟨d, .entry x, ty, pos, after, gd⟩ ρ w K := by
  obtain ⟨S, ⟨hS, hne, es, clock, since, seen, c0, hb, hr, hm, hp, hc, hold, hsc, hl, hcur⟩, hlt, H⟩ := st.focus (i := 0) rfl
  obtain ⟨e, he, seen', rfl, rfl, hk, hv⟩ := hcur p rfl
  rw [← hk, ← hv] at hK
  have hrun := run_entry_at (P := P) w r b since seen' es c0 e hr hb he (hp.imp (fun h => Nat.ne_of_lt h))
  exact OpT.val (v := .tuple #[e.key, e.val]) (by simp only [execOp, hx, Sem.run_bind, hrun, Result.andThen_ok, Sem.run_pure]) hK
theorem St.endIt {κ α : Type} {kf : κ → Value} {vf : α → Value} {b r : Nat} {m left : List (κ × α)} {cur : Option (κ × α)} (st : St Z w0 w (MpIt kf vf b r m left cur :: L)) : St Z w0 w (Mp kf vf b m :: L) := by
  obtain ⟨F, f1, f2, f3⟩ := st.sep
  obtain ⟨hS, hne, es, clock, since, seen, c0, hb, hr, hm, hp, hc, _⟩ := f1 0 _ rfl
  refine ⟨st.os, st.tape, st.output, st.size, st.dom, st.old, fun i => match i with | 0 => fun k => k = b | i + 1 => F (i + 1), ?_, ?_, ?_⟩
  · intro i q hq
    cases i with
    | zero => simp at hq; subst hq; exact ⟨fun _ => Iff.rfl, es, clock, hb, hm, hp, hc⟩
    | succ i => exact f1 (i + 1) q (by simpa using hq)
  · intro i j k hij hi hj
    cases i with
    | zero =>
      cases j with
      | zero => exact hij rfl
      | succ j => exact f2 0 (j + 1) k (by omega) ((hS k).2 (.inl hi)) hj
    | succ i =>
      cases j with
      | zero => exact f2 (i + 1) 0 k (by omega) hi ((hS k).2 (.inl hj))
      | succ j => exact f2 _ _ k hij hi hj
  · intro i k hk
    cases i with
    | zero => exact f3 0 k ((hS k).2 (.inl hk))
    | succ i => exact f3 (i + 1) k hk
end
end Go.Eng
