/-
  The engine, part H: maps of one's own; type switches; a block frozen.
-/
import Derived.Test.YtojkakpkmfopbaaEngG
namespace Go.Eng
open Go.RowKit

/-- A map of one's own: its entries in the order of their births. -/
def Mp {κ α : Type} (kf : κ → Value) (vf : α → Value) (b : Nat) (m : List (κ × α)) : Res where
  P w S := (∀ k, S k ↔ k = b) ∧ ∃ es clock, w.heap[b]? = some (.map es clock) ∧ es.toList.map (fun e => (e.key, e.val)) = m.map (fun p => (kf p.1, vf p.2)) ∧ (es.toList.map (fun e : MapEntry => e.born)).Pairwise (· < ·) ∧ ∀ e ∈ es.toList, e.born < clock
  loc := fun ⟨h1, es, c, h2, h3⟩ h => ⟨h1, es, c, (h b ((h1 b).2 rfl)).trans h2, h3⟩

def mset {κ α : Type} [DecidableEq κ] (m : List (κ × α)) (k : κ) (v : α) : List (κ × α) :=
  match m.findIdx? (fun p => decide (p.1 = k)) with
  | some j => m.set j (k, v)
  | none => m ++ [(k, v)]
def mget {κ α : Type} [DecidableEq κ] (m : List (κ × α)) (k : κ) : Option α := (m.find? (fun p => decide (p.1 = k))).map (·.2)

theorem findNow_spec {κ α : Type} [DecidableEq κ] {kf : κ → Value} {vf : α → Value} {kind : TypeDesc} (hk : ∀ a b, Instr.sameNow kind (kf a) (kf b) = some (decide (a = b))) (k : κ) :
    ∀ (es : List MapEntry) (m : List (κ × α)) (i0 : Nat), es.map (fun e => (e.key, e.val)) = m.map (fun p => (kf p.1, vf p.2)) →
      Instr.findNow kind (kf k) es i0 = some ((m.findIdx? (fun p => decide (p.1 = k))).map (fun j => (i0 + j, ((m[j]?).map (fun p => vf p.2)).getD undef)))
  | [], [], _, _ => rfl
  | [], _ :: _, _, h => by simp at h
  | _ :: _, [], _, h => by simp at h
  | e :: es, p :: m, i0, h => by
    simp only [List.map_cons, List.cons.injEq, Prod.mk.injEq] at h
    obtain ⟨⟨h1, h2⟩, h3⟩ := h
    simp only [Instr.findNow, h1, hk, List.findIdx?_cons]
    by_cases hp : p.1 = k
    · have e1 : decide (k = p.1) = true := by simp [hp]
      rw [e1]
      simp [hp, h2]
    · have e1 : decide (k = p.1) = false := by simp; exact fun h => hp h.symm
      rw [e1]
      simp only [hp, decide_false, Bool.false_eq_true, if_false]
      rw [findNow_spec hk k es m (i0 + 1) h3]
      cases m.findIdx? (fun p => decide (p.1 = k)) with
      | none => rfl
      | some j => simp; omega
theorem mget_idx {κ α : Type} [DecidableEq κ] (m : List (κ × α)) (k : κ) : mget m k = ((m.findIdx? (fun p => decide (p.1 = k))).bind (fun j => (m[j]?).map (·.2))) := by
  unfold mget
  induction m with
  | nil => rfl
  | cons p m ih =>
    rw [List.find?_cons, List.findIdx?_cons]
    by_cases hp : p.1 = k
    · simp [hp]
    · simp only [hp, decide_false, Bool.false_eq_true, if_false]
      rw [ih]
      cases m.findIdx? (fun p => decide (p.1 = k)) <;> simp

section
variable {P : Program} {ρ : Env} {w : World} {K : Value → World → Prop} {d : Option Tmp} {ty : TypeId} {pos : String} {after : Array Edge} {gd : Option (Nat × Bool)}
variable {Z : Nat → Prop} {w0 : World} {L : List Res}

theorem setObj_heap (w : World) (r : Nat) (o : Obj) (k : Nat) (h : k ≠ r) : (w.heap.setIfInBounds r o)[k]? = w.heap[k]? := by
  rw [Array.getElem?_setIfInBounds_ne (Ne.symm h)]

theorem run_getObj {r : Nat} {es : Array MapEntry} {c : Nat} (h : w.heap[r]? = some (.map es c)) : (getObj r).run P w = .ok (.map es c) w := by
  simp [getObj, Sem.run, h]
theorem run_setObj {r : Nat} {es : Array MapEntry} {c : Nat} {o : Obj} (h : w.heap[r]? = some (.map es c)) : (setObj r o).run P w = .ok () { w with heap := w.heap.setIfInBounds r o } := by
  simp [setObj, Sem.run, h]

/-- What a kind of key must be: plain to compare, now. -/
structure KeyOk (P : Program) {κ : Type} [DecidableEq κ] (kt : TypeId) (kf : κ → Value) : Prop where
  ok : ∃ kind, P.underlying kt = some kind ∧ (∀ a b, Instr.sameNow kind (kf a) (kf b) = some (decide (a = b))) ∧ (∀ (w : World) e n v, (Instr.checkKey e (n + 1) kt (kf v)).run P w = .ok () w) ∧ ∀ a, Instr.sameBits 10000 (kf a) (kf a) = true
theorem keyOk_string {kt : TypeId} (h : P.underlying kt = some .string) : KeyOk P kt Value.string := by
  refine ⟨.string, h, fun a b => ?_, fun w e n v => ?_, fun a => ?_⟩
  · simp only [Instr.sameNow]
    congr 1
    rw [beq_toListBytes, toList_eq_iff]
  · simp [Instr.checkKey, run_underlying h]
  · simp [Instr.sameBits, beq_toListBytes]
theorem keyOk_int {kt : TypeId} {k : IntKind} (h : P.underlying kt = some (.int k)) : KeyOk P kt (Value.int k) := by
  refine ⟨.int k, h, fun a b => ?_, fun w e n v => ?_, fun a => ?_⟩
  · simp only [Instr.sameNow, if_true]
    congr 1
  · simp [Instr.checkKey, run_underlying h]
  · simp [Instr.sameBits]

theorem run_lookup {κ α : Type} [DecidableEq κ] {kf : κ → Value} {vf : α → Value} {t kt et : TypeId} {b i : Nat} {m : List (κ × α)} {z : Value} (st : St Z w0 w L) (hi : L[i]? = some (Mp kf vf b m)) (hk : KeyOk P kt kf) (hu : P.underlying t = some (.map kt et)) (hz : zeroB P et = some z) (k : κ) (ok : Bool) :
    (Instr.lookup t (.map (some b)) (kf k) ok).run P w = .ok (if ok then .tuple #[((mget m k).map vf).getD z, .bool (mget m k).isSome] else ((mget m k).map vf).getD z) w := by
  obtain ⟨S, ⟨hS, es, clock, hb, hm, _⟩, _⟩ := st.focus hi
  obtain ⟨kind, hkd, hs, hc, _⟩ := hk.ok
  have hf := findNow_spec hs k es.toList m 0 hm
  unfold Instr.lookup
  simp only [Sem.run_bind, run_underlying hu, Result.andThen_ok, run_getObj hb, Sem.run_pure, hc _ _ 9999]
  unfold Instr.findKey
  simp only [Sem.run_bind, run_underlying hkd, Result.andThen_ok, hf]
  rw [mget_idx]
  cases h : m.findIdx? (fun p => decide (p.1 = k)) with
  | none => simp [run_zeroValue hz]
  | some j =>
    have hj : j < m.length := (List.findIdx?_eq_some_iff_getElem.1 h).1
    simp [List.getElem?_eq_getElem hj]
theorem OpT.lookup {κ α : Type} [DecidableEq κ] {kf : κ → Value} {vf : α → Value} {t kt et : TypeId} {x y : Operand} {b : Nat} {m : List (κ × α)} {z : Value} (st : St Z w0 w L) (i : Nat) (hi : L[i]? = some (Mp kf vf b m)) (hk : KeyOk P kt kf) (hu : P.underlying t = some (.map kt et)) (hz : zeroB P et = some z) (k : κ)
    (hx : evO ρ x = .map (some b)) (hy : evO ρ y = kf k) (hK : K (((mget m k).map vf).getD z) w) : OpT P ⟨d, .lookup t x y false, ty, pos, after, gd⟩ ρ w K :=
  OpT.val (v := ((mget m k).map vf).getD z) (by simp only [execOp, hx, hy, Sem.run_bind, run_lookup st hi hk hu hz k false, Result.andThen_ok, Sem.run_pure]; rfl) hK
theorem OpT.lookupOk {κ α : Type} [DecidableEq κ] {kf : κ → Value} {vf : α → Value} {t kt et : TypeId} {x y : Operand} {b : Nat} {m : List (κ × α)} {z : Value} (st : St Z w0 w L) (i : Nat) (hi : L[i]? = some (Mp kf vf b m)) (hk : KeyOk P kt kf) (hu : P.underlying t = some (.map kt et)) (hz : zeroB P et = some z) (k : κ)
    (hx : evO ρ x = .map (some b)) (hy : evO ρ y = kf k) (hK : K (.tuple #[((mget m k).map vf).getD z, .bool (mget m k).isSome]) w) : OpT P ⟨d, .lookup t x y true, ty, pos, after, gd⟩ ρ w K :=
  OpT.val (v := .tuple #[((mget m k).map vf).getD z, .bool (mget m k).isSome]) (by simp only [execOp, hx, hy, Sem.run_bind, run_lookup st hi hk hu hz k true, Result.andThen_ok, Sem.run_pure]; rfl) hK

theorem OpT.mapSet {κ α : Type} [DecidableEq κ] {kf : κ → Value} {vf : α → Value} {t kt et : TypeId} {x y u : Operand} {b : Nat} {m : List (κ × α)} (st : St Z w0 w L) (i : Nat) (hi : L[i]? = some (Mp kf vf b m)) (hk : KeyOk P kt kf) (hu : P.underlying t = some (.map kt et)) (k : κ) (v : α)
    (hx : evO ρ x = .map (some b)) (hy : evO ρ y = kf k) (hv : evO ρ u = vf v) (hK : ∀ w', St Z w0 w' (L.set i (Mp kf vf b (mset m k v))) → K undef w') : OpT P ⟨d, .mapUpdate t x y u, ty, pos, after, gd⟩ ρ w K := by
  obtain ⟨S, ⟨hS, es, clock, hb, hm, hp, hc⟩, hlt, H⟩ := st.focus hi
  obtain ⟨kind, hkd, hs, hck, hsb⟩ := hk.ok
  have hf := findNow_spec hs k es.toList m 0 hm
  have fin : ∀ es' c', es'.toList.map (fun e => (e.key, e.val)) = (mset m k v).map (fun p => (kf p.1, vf p.2)) → (es'.toList.map (fun e : MapEntry => e.born)).Pairwise (· < ·) → (∀ e ∈ es'.toList, e.born < c') →
      St Z w0 { w with heap := w.heap.setIfInBounds b (.map es' c') } (L.set i (Mp kf vf b (mset m k v))) := by
    intro es' c' h1 h2 h3
    have hbl : b < w.heap.size := (Array.getElem?_eq_some_iff.1 hb).1
    refine H _ _ S rfl rfl rfl (by simp) (fun j hj hn => setObj_heap w b _ j (fun e => hn ((hS j).2 e))) ⟨hS, es', c', by simp [hbl], h1, h2, h3⟩ (fun j hj => ⟨by simpa using (hlt j hj).1, .inl hj⟩)
  cases h : m.findIdx? (fun p => decide (p.1 = k)) with
  | none =>
    rw [h] at hf
    have hms : mset m k v = m ++ [(k, v)] := by simp [mset, h]
    refine OpT.skp (w' := { w with heap := w.heap.setIfInBounds b (.map (es.push { key := kf k, val := vf v, born := clock }) (clock + 1)) }) ?_ (hK _ (fin _ _ ?_ ?_ ?_))
    · simp only [execOp, hx, hy, hv, Instr.mapUpdate, Sem.run_bind, run_underlying hu, Result.andThen_ok, run_getObj hb, hck _ _ 9999, Instr.findKey, run_underlying hkd, hf, Option.map_none, Sem.run_pure, run_setObj hb]
    · rw [hms]; simp [hm]
    · simp only [Array.toList_push, List.map_append, List.map_cons, List.map_nil]
      rw [List.pairwise_append]
      refine ⟨hp, by simp, ?_⟩
      intro a ha c hc'
      obtain ⟨e, he, rfl⟩ := List.mem_map.1 ha
      simp at hc'
      subst hc'
      exact hc e he
    · intro e he
      simp only [Array.toList_push, List.mem_append, List.mem_singleton] at he
      rcases he with he | rfl
      · have := hc e he; omega
      · simp
  | some j =>
    rw [h] at hf
    obtain ⟨hj, hpj, _⟩ := List.findIdx?_eq_some_iff_getElem.1 h
    have hms : mset m k v = m.set j (k, v) := by simp [mset, h]
    have hel : es.toList.length = m.length := by simpa using congrArg List.length hm
    have hje : j < es.size := by simpa using (by omega : j < es.toList.length)
    have hkey : (es[j]).key = kf k := by
      have h1 := congrArg (fun l => l[j]?) hm
      have hkk : m[j].1 = k := by simpa using hpj
      simp [List.getElem?_eq_getElem hj, hje] at h1
      rw [h1.1, hkk]
    refine OpT.skp (w' := { w with heap := w.heap.setIfInBounds b (.map (es.modify j fun e => { e with key := kf k, val := vf v }) clock) }) ?_ (hK _ (fin _ _ ?_ ?_ ?_))
    · simp only [execOp, hx, hy, hv, Instr.mapUpdate, Sem.run_bind, run_underlying hu, Result.andThen_ok, run_getObj hb, hck _ _ 9999, Instr.findKey, run_underlying hkd, hf, Option.map_some, Sem.run_pure, Nat.zero_add]
      simp only [Array.getElem?_eq_getElem hje, Option.map_some, Option.getD_some, hkey, Instr.keyThatStays, hsb, if_true, Sem.run_pure, Result.andThen_ok, run_setObj hb]
    · rw [hms]
      apply List.ext_getElem?
      intro n
      have hn := congrArg (fun l => l[n]?) hm
      simp only [List.getElem?_map] at hn
      simp only [Array.toList_modify, List.getElem?_map, List.getElem?_modify, List.getElem?_set]
      by_cases hnj : j = n
      · subst hnj
        simp [hje, hj]
      · simp only [hnj, if_false]
        rw [← hn]
        simp
    · have : (es.modify j fun e => { e with key := kf k, val := vf v }).toList.map (fun e : MapEntry => e.born) = es.toList.map (fun e : MapEntry => e.born) := by
        apply List.ext_getElem?
        intro n
        simp only [Array.toList_modify, List.getElem?_map, List.getElem?_modify]
        cases es.toList[n]? with
        | none => rfl
        | some e => by_cases hnj : j = n <;> simp [hnj]
      rw [this]; exact hp
    · intro e he
      rw [Array.toList_modify] at he
      obtain ⟨n, hn, rfl⟩ := List.getElem_of_mem he
      simp only [List.length_modify] at hn
      rw [List.getElem_modify]
      have := hc es.toList[n] (List.getElem_mem _)
      split
      · exact this
      · exact this
theorem OpT.makeMap {κ α : Type} (kf : κ → Value) (vf : α → Value) {t : TypeId} (st : St Z w0 w L) (hK : ∀ b w', St Z w0 w' (Mp kf vf b [] :: L) → K (.map (some b)) w') : OpT P ⟨d, .makeMap t none, ty, pos, after, gd⟩ ρ w K := by
  refine OpT.val (v := .map (some w.heap.size)) (w' := w.alloc (.map #[] 0)) (by simp [execOp, Instr.makeMap]) (hK _ _ ?_)
  exact st.cons (below_alloc w _) _ (fun k => k = w.heap.size) ⟨fun _ => Iff.rfl, #[], 0, heap_alloc_new w _, rfl, by simp, by simp⟩ (fun k hk => by subst hk; simp)

/-! type switches -/
theorem OpT.tassT {x : Operand} {xt at_ : TypeId} (v : Value) (hb : (match P.underlying at_ with | some (.interface _) => false | some _ => true | none => false) = true) (hx : evO ρ x = .iface at_ v) (hK : K (.tuple #[v, .bool true]) w) : OpT P ⟨d, .typeAssert x xt at_ true, ty, pos, after, gd⟩ ρ w K := by
  refine OpT.val (v := .tuple #[v, .bool true]) ?_ hK
  split at hb
  · cases hb
  · rename_i dd hne hd
    simp only [execOp, Instr.typeAssert, hx, Sem.run_bind, run_underlying hd, Result.andThen_ok]
    cases dd <;> first | (simp; done) | exact absurd rfl (hne _)
  · cases hb
theorem OpT.tassF {x : Operand} {xt at_ : TypeId} {z : Value} (t : TypeId) (v : Value) (hb : (match P.underlying at_ with | some (.interface _) => false | some _ => true | none => false) = true) (hz : zeroB P at_ = some z) (hne : Nat.beq t at_ = false) (hx : evO ρ x = .iface t v) (hK : K (.tuple #[z, .bool false]) w) : OpT P ⟨d, .typeAssert x xt at_ true, ty, pos, after, gd⟩ ρ w K := by
  have hne' : ¬ t = at_ := fun e => by subst e; rw [Nat.beq_refl] at hne; cases hne
  refine OpT.val (v := .tuple #[z, .bool false]) ?_ hK
  split at hb
  · cases hb
  · rename_i dd hn hd
    simp only [execOp, Instr.typeAssert, hx, Sem.run_bind, run_underlying hd, Result.andThen_ok]
    cases dd <;> first | (simp [hne', run_zeroValue hz]; done) | exact absurd rfl (hn _)
  · cases hb

theorem RowZ.part {ad : Addr} {cs : List Value} (h : RowZ Z w0 ad cs) (k n : Nat) : RowZ Z w0 (ad.add k) ((cs.drop k).take n) := fun w' hw => (h w' hw).part k n
/-- A block is frozen for a while. -/
theorem St.freezeB {b : Nat} {t : TypeId} {cs : List Value} (st : St Z w0 w (Blk b t cs :: L)) : ∃ Z', (∀ k, Z k → Z' k) ∧ (∀ k, Z k → w.heap[k]? = w0.heap[k]?) ∧ RowZ Z' w ⟨b, 0, none⟩ cs ∧ St Z' w w L ∧ ∀ w' L', St Z' w w' L' → St Z w0 w' (Blk b t cs :: L') := by
  obtain ⟨S, ⟨hS, hb⟩, h1, h2⟩ := st.freeze
  refine ⟨_, fun k h => .inl h, st.old, fun w' hw => ?_, h1, h2⟩
  exact RowAt.blk (t := t) (fr := (0, 0)) ((hw b (.inr ((hS b).2 rfl))).trans hb)
end
end Go.Eng
namespace Go.Eng
open Go.RowKit
def bk : Value → Nat
  | .slice (some a) _ _ => a.block
  | .pointer (some a) => a.block
  | .map (some b) => b
  | _ => 0
section
variable {P : Program} {ρ : Env} {w : World} {K : Value → World → Prop} {d : Option Tmp} {ty : TypeId} {pos : String} {after : Array Edge} {gd : Option (Nat × Bool)}
variable {Z : Nat → Prop} {w0 : World} {L : List Res}
theorem row_form {e sz n : Nat} {v : Value} {cs : List Value} (h : w.ownsRow 0 e sz v n cs) : ∃ A c, v = .slice A n c := by
  rcases h.2 with ⟨rfl, rfl⟩ | ⟨g, cap, cur, rfl, _⟩
  · exact ⟨_, _, rfl⟩
  · exact ⟨_, _, rfl⟩
theorem St.rowOne (st : St Z w0 w L) {i e sz n : Nat} {v : Value} {cs : List Value} (hi : L[i]? = some (Row e sz v n cs)) : v.oneCell' = true := by
  obtain ⟨A, c, rfl⟩ := row_form (st.row hi); rfl
theorem St.rowCel (st : St Z w0 w L) {i e sz n : Nat} {v : Value} {cs : List Value} (hi : L[i]? = some (Row e sz v n cs)) : v.cells = #[v] := by
  obtain ⟨A, c, rfl⟩ := row_form (st.row hi); rfl
theorem OpT.lenRow {t e e' sz n : Nat} {x : Operand} {tys : Array TypeId} {v : Value} {cs : List Value} (st : St Z w0 w L) (i : Nat) (hi : L[i]? = some (Row e' sz v n cs)) (ht : tys[0]? = some t) (hu : P.underlying t = some (.slice e)) (hx : evO ρ x = v) (hK : K (.int .i64 n) w) :
    OpT P ⟨d, .call ⟨.builtin .len, #[x], tys⟩, ty, pos, after, gd⟩ ρ w K := by
  obtain ⟨A, c, rfl⟩ := row_form (st.row hi)
  exact OpT.lenS A n c ht hu hx hK
theorem OpT.lookupI {κ : Type} [DecidableEq κ] {kf : κ → Value} {ik : IntKind} {t kt et : TypeId} {x y : Operand} {b : Nat} {m : List (κ × Int)} (st : St Z w0 w L) (i : Nat) (hi : L[i]? = some (Mp kf (Value.int ik) b m)) (hk : KeyOk P kt kf) (hu : P.underlying t = some (.map kt et)) (hz : zeroB P et = some (.int ik 0)) (k : κ)
    (hx : evO ρ x = .map (some b)) (hy : evO ρ y = kf k) (hK : K (.int ik ((mget m k).getD 0)) w) : OpT P ⟨d, .lookup t x y false, ty, pos, after, gd⟩ ρ w K := by
  refine OpT.lookup st i hi hk hu hz k hx hy ?_
  cases h : mget m k <;> simpa [h] using hK
/-- A row of one's own as data that is read. -/
theorem Rl.sl_row {α : Type} (r : Rl α) {S : Nat → Prop} {e sz n : Nat} {v : Value} {cs : List Value} {xs : List α} (h : w.ownsRow 0 e sz v n cs) (hS : ∀ k, v.ownBlock = some k → S k) (hn : n = xs.length) (hsz : sz = r.sz) (hl : n ≤ 140737488355328)
    (hr : ∀ i x, xs[i]? = some x → r.R S w ((cs.drop (i * sz)).take sz) x) : r.sl S w v xs := by
  subst hn; subst hsz
  rcases h.2 with ⟨rfl, h0⟩ | ⟨g, cap, cur, rfl, _, hh, hc1, hc2, hc3, hc4⟩
  · exact ⟨none, 0, by rw [h0], hl, fun i x hx => by
      have : i < xs.length := (List.getElem?_eq_some_iff.1 hx).1
      omega⟩
  · refine ⟨some ⟨g, 0, none⟩, cap, rfl, hl, fun i x hx => ⟨⟨g, 0, none⟩, _, rfl, ?_, hr i x hx⟩⟩
    intro w' hw
    have hg : w'.heap[g]? = some (.cells cur e (0, 0)) := (hw g (hS g rfl)).trans hh
    have h1 : RowAt w' ⟨g, 0, none⟩ cs := by
      intro j u hu
      rw [Addr.add_lit, Nat.zero_add, cell_of_row w' g j cur e (0, 0) hg]
      rw [← hc4, List.getElem?_take] at hu
      split at hu
      · simpa using hu
      · cases hu
    exact h1.part _ _
end
end Go.Eng
