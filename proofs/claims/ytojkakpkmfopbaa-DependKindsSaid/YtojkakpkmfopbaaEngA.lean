/-
  The engine, part A: frames as functions, the rules for code and operations, the heap as a list of owned pieces.
-/
import Derived.WalkKit
import Derived.Scope
import Derived.ScopeJumps
namespace Go.Eng
open Go.RowKit

abbrev Env := Nat → Value
def upd (ρ : Env) (d : Nat) (v : Value) : Env := fun t => bif Nat.beq t d then v else ρ t
def env0 (l : List Value) : Env := fun t => l.getD t undef
def evO (ρ : Env) : Operand → Value
  | .tmp t => ρ t
  | .const v => v
  | .global g => .pointer (some ⟨g, 0, none⟩)
  | .func f => .func (.func f) #[] #[]

structure Fr (a : Act) (n : Nat) (ρ : Env) : Prop where
  defers : a.defers = []
  size : a.tmps.size = n
  get : ∀ t, a.tmps.getD t undef = ρ t

theorem Fr.eval {a : Act} {n : Nat} {ρ : Env} (h : Fr a n ρ) : a.eval = evO ρ := by
  funext x
  cases x with
  | tmp t => exact h.get t
  | const v => rfl
  | global g => rfl
  | func f => rfl

theorem Fr.put {a : Act} {n : Nat} {ρ : Env} (h : Fr a n ρ) {d : Nat} (hd : Nat.blt d n = true) (v : Value) : Fr (a.put (some d) v) n (upd ρ d v) := by
  have hd' : d < n := by simpa [Nat.blt_eq] using hd
  refine ⟨h.defers, by simp [Act.put, h.size], fun t => ?_⟩
  have hg := h.get t
  simp only [Act.put, upd]
  by_cases e : t = d
  · subst e
    simp [Array.getD_eq_getD_getElem?, h.size, hd']
  · have e' : Nat.beq t d = false := by
      cases hb : Nat.beq t d
      · rfl
      · exact absurd (Nat.eq_of_beq_eq_true hb) e
    rw [e', cond_false, ← hg]
    simp only [Array.getD_eq_getD_getElem?]
    rw [Array.getElem?_setIfInBounds_ne (Ne.symm e)]

theorem Fr.none {a : Act} {n : Nat} {ρ : Env} (h : Fr a n ρ) (v : Value) : Fr (a.put .none v) n ρ := h

abbrev QP := Exit → Env → World → Prop
def lft (n : Nat) (Q : QP) : Exit → Act → World → Prop := fun ex a w => ∃ ρ, Fr a n ρ ∧ Q ex ρ w

def WC (P : Program) (n : Nat) (c : Code) (Q : QP) (ρ : Env) (w : World) : Prop := ∀ a, Fr a n ρ → c.wp P (lft n Q) a w
def WL (P : Program) (n : Nat) (ops : Array Oper) (Q : QP) (rest : List Oper) (ρ : Env) (w : World) : Prop :=
  ∀ a, Fr a n ρ → wpList P ops (lft n Q) rest a w

def thenQ (next : Env → World → Prop) (Q : QP) : QP
  | .normal, ρ, w => next ρ w
  | e, ρ, w => Q e ρ w
def blkQ (id : Nat) (Q : QP) : QP
  | .exit id', ρ, w => if id' = id then Q .normal ρ w else Q (.exit id') ρ w
  | e, ρ, w => Q e ρ w
def loopQ (I : Nat → Env → World → Prop) (m : Nat) (Q : QP) : QP
  | .normal, ρ, w => ∃ m', m' < m ∧ I m' ρ w
  | e, ρ, w => Q e ρ w

section
variable {P : Program} {n : Nat} {Q : QP} {ρ : Env} {w : World}

theorem WC.mono {c : Code} {Q' : QP} (h : WC P n c Q ρ w) (hq : ∀ e ρ w, Q e ρ w → Q' e ρ w) : WC P n c Q' ρ w :=
  fun a ha => wp_mono (h a ha) (fun _ _ _ ⟨ρ', h1, h2⟩ => ⟨ρ', h1, hq _ _ _ h2⟩)

theorem WC.seq {x y : Code} (h : WC P n x (thenQ (WC P n y Q) Q) ρ w) : WC P n (.seq x y) Q ρ w := by
  intro a ha
  refine wp_seq (wp_mono (h a ha) ?_)
  rintro e a' w' ⟨ρ', hf, hq⟩
  cases e <;> first | exact hq a' hf | exact ⟨ρ', hf, hq⟩

theorem WC.block {id : Nat} {c : Code} (h : WC P n c (blkQ id Q) ρ w) : WC P n (.block id c) Q ρ w := by
  intro a ha
  refine wp_block (wp_mono (h a ha) ?_)
  rintro e a' w' ⟨ρ', hf, hq⟩
  cases e with
  | exit id' =>
    simp only [Exit.inBlock, blkQ] at *
    split
    · rename_i h; rw [if_pos h] at hq; exact ⟨ρ', hf, hq⟩
    · rename_i h; rw [if_neg h] at hq; exact ⟨ρ', hf, hq⟩
  | _ => exact ⟨ρ', hf, hq⟩

theorem WC.skip (h : Q .normal ρ w) : WC P n .skip Q ρ w := fun _ ha => wp_skip ⟨ρ, ha, h⟩
theorem WC.ret (h : Q .ret ρ w) : WC P n .ret Q ρ w := fun _ ha => wp_ret ⟨ρ, ha, h⟩
theorem WC.exit {id : Nat} (h : Q (.exit id) ρ w) : WC P n (.exit id) Q ρ w := fun _ ha => wp_exit ⟨ρ, ha, h⟩
theorem WC.goto {l : Nat} (h : Q (.goto l) ρ w) : WC P n (.goto l) Q ρ w := fun _ ha => wp_goto ⟨ρ, ha, h⟩
theorem WC.label {l : Nat} (h : Q .normal ρ w) : WC P n (.label l) Q ρ w := fun _ ha => wp_label ⟨ρ, ha, h⟩

theorem WC.cond {c : Operand} {x y : Code} (b : Bool) (hc : evO ρ c = .bool b) (ht : b = true → WC P n x Q ρ w) (hf : b = false → WC P n y Q ρ w) : WC P n (.cond c x y) Q ρ w := by
  intro a ha
  exact wp_cond_split (t := b) (by rw [ha.eval]; exact hc) (fun h => ht h a ha) (fun h => hf h a ha)
theorem WC.condP {c : Operand} {x y : Code} (p : Prop) [Decidable p] (hc : evO ρ c = .bool (decide p)) (ht : p → WC P n x Q ρ w) (hf : ¬ p → WC P n y Q ρ w) : WC P n (.cond c x y) Q ρ w :=
  WC.cond _ hc (fun h => ht (of_decide_eq_true h)) (fun h => hf (of_decide_eq_false h))
theorem WC.condT {c : Operand} {x y : Code} (hc : evO ρ c = .bool true) (ht : WC P n x Q ρ w) : WC P n (.cond c x y) Q ρ w := WC.cond true hc (fun _ => ht) (fun h => by cases h)
theorem WC.condF {c : Operand} {x y : Code} (hc : evO ρ c = .bool false) (hf : WC P n y Q ρ w) : WC P n (.cond c x y) Q ρ w := WC.cond false hc (fun h => by cases h) (fun _ => hf)

theorem least_of {p : Nat → Prop} (h : ∃ n, p n) : ∃ n, p n ∧ ∀ m, p m → n ≤ m := by
  obtain ⟨n, hn⟩ := h
  induction n using Nat.strongRecOn with
  | _ n ih =>
    by_cases h : ∃ m, m < n ∧ p m
    · obtain ⟨m, hm, hp⟩ := h
      exact ih m hm hp
    · exact ⟨n, hn, fun m hp => Nat.le_of_not_lt (fun hlt => h ⟨m, hlt, hp⟩)⟩

theorem WC.loop {c : Code} (I : Nat → Env → World → Prop) (m : Nat) (h0 : I m ρ w) (round : ∀ m ρ w, I m ρ w → WC P n c (loopQ I m Q) ρ w) : WC P n (.loop c) Q ρ w := by
  intro a ha
  classical
  let J : Act → World → Prop := fun a w => ∃ m ρ, Fr a n ρ ∧ I m ρ w
  let μ : Act → World → Nat := fun a w => if h : J a w then Classical.choose (least_of (p := fun m => ∃ ρ, Fr a n ρ ∧ I m ρ w) h) else 0
  refine wp_loop J μ ⟨m, ρ, ha, h0⟩ ?_
  intro a w hJ
  have hs : ∃ ρ, Fr a n ρ ∧ I (μ a w) ρ w := by
    have : μ a w = Classical.choose (least_of (p := fun m => ∃ ρ, Fr a n ρ ∧ I m ρ w) hJ) := dif_pos hJ
    rw [this]
    exact (Classical.choose_spec (least_of (p := fun m => ∃ ρ, Fr a n ρ ∧ I m ρ w) hJ)).1
  obtain ⟨ρ, hf, hI⟩ := hs
  refine wp_mono (round _ _ _ hI a hf) ?_
  rintro e a' w' ⟨ρ', hf', hq⟩
  cases e with
  | normal =>
    obtain ⟨m', hm, hI'⟩ := hq
    have hJ' : J a' w' := ⟨m', ρ', hf', hI'⟩
    refine ⟨hJ', Nat.lt_of_le_of_lt ?_ hm⟩
    have : μ a' w' = Classical.choose (least_of (p := fun m => ∃ ρ, Fr a' n ρ ∧ I m ρ w') hJ') := dif_pos hJ'
    rw [this]
    exact (Classical.choose_spec (least_of (p := fun m => ∃ ρ, Fr a' n ρ ∧ I m ρ w') hJ')).2 _ ⟨ρ', hf', hI'⟩
  | _ => exact ⟨ρ', hf', hq⟩

theorem WC.region {id : Nat} {l : List Oper} (h : WL P n l.toArray Q l ρ w) : WC P n (.region id l.toArray false) Q ρ w :=
  fun a ha => wp_region_lit (h a ha)

theorem WL.nil {ops : Array Oper} (h : Q .normal ρ w) : WL P n ops Q [] ρ w := fun _ ha => wpList_nil ⟨ρ, ha, h⟩

/-- One operation, its guard aside. -/
def OpT (P : Program) (o : Oper) (ρ : Env) (w : World) (K : Value → World → Prop) : Prop :=
  ∀ (a : Act) (Q : Exit → Act → World → Prop), o.upon P a (fun a' w' => ∃ v, a' = a.put o.dst v ∧ K v w') Q ((execOp (evO ρ) o).run P w)

theorem OpT.val {o : Oper} {K : Value → World → Prop} {v : Value} {w' : World} (h : (execOp (evO ρ) o).run P w = .ok (.value v) w') (hK : K v w') : OpT P o ρ w K := by
  intro a Q
  rw [h, Oper.upon_value]
  exact ⟨v, rfl, hK⟩
theorem OpT.skp {o : Oper} {K : Value → World → Prop} {w' : World} (h : (execOp (evO ρ) o).run P w = .ok .skip w') (hK : K undef w') : OpT P o ρ w K := by
  intro a Q
  rw [h, Oper.upon_skip]
  exact ⟨undef, rfl, hK⟩
theorem OpT.ent {o : Oper} {K : Value → World → Prop} {f : FuncId} {args : Array Value} {w' : World} (h : (execOp (evO ρ) o).run P w = .ok (.enter f args) w')
    (hc : Calls P f args w' (fun e w'' => ∃ v, e = .returned v ∧ K v w'')) : OpT P o ρ w K := by
  intro a Q
  rw [h, Oper.upon_enter]
  refine hc.mono ?_
  rintro e w'' ⟨v, rfl, hK⟩
  exact ⟨v, rfl, hK⟩

theorem upon_mono {o : Oper} {a : Act} {next next' : Act → World → Prop} {Q Q' : Exit → Act → World → Prop} {r : Result Next} (h : o.upon P a next Q r) (hn : ∀ a w, next a w → next' a w) (hq : ∀ e a w, e ≠ .normal → Q e a w → Q' e a w) : o.upon P a next' Q' r := by
  unfold Oper.upon at *
  split at h
  · exact hn _ _ h
  · exact hn _ _ h
  · exact hn _ _ h
  · refine Calls.mono h ?_
    intro e w'' hh
    cases e with
    | returned v => exact hn _ _ hh
    | panicked ch => exact hq _ _ _ (by simp) hh
    | outgrown =>
      obtain ⟨a, w, hl⟩ := hh
      exact ⟨a, w, hq _ _ _ (by simp) hl⟩
  · exact Rows.mono h (fun _ _ hh => hn _ _ hh)
  · exact hq _ _ _ (by simp) h
  · exact h.elim

theorem WL.step {ops : Array Oper} {rest : List Oper} {d : Nat} {op : Op} {ty : TypeId} {pos : String} {after : Array Edge} (hd : Nat.blt d n = true)
    (h : OpT P ⟨some d, op, ty, pos, after, none⟩ ρ w (fun v w' => WL P n ops Q rest (upd ρ d v) w')) : WL P n ops Q (⟨some d, op, ty, pos, after, none⟩ :: rest) ρ w := by
  intro a ha
  refine wpList_plain rfl (fun K hK => ?_)
  unfold Oper.wp
  rw [ha.eval]
  refine upon_mono (h a (lft n Q)) ?_ (fun _ _ _ _ hh => hh)
  rintro a' w' ⟨v, rfl, hv⟩
  exact hK _ _ (hv _ (ha.put hd v))
theorem WL.stepN {ops : Array Oper} {rest : List Oper} {op : Op} {ty : TypeId} {pos : String} {after : Array Edge}
    (h : OpT P ⟨none, op, ty, pos, after, none⟩ ρ w (fun _ w' => WL P n ops Q rest ρ w')) : WL P n ops Q (⟨none, op, ty, pos, after, none⟩ :: rest) ρ w := by
  intro a ha
  refine wpList_plain rfl (fun K hK => ?_)
  unfold Oper.wp
  rw [ha.eval]
  refine upon_mono (h a (lft n Q)) ?_ (fun _ _ _ _ hh => hh)
  rintro a' w' ⟨v, rfl, hv⟩
  exact hK _ _ (hv _ (ha.none v))

theorem yielded_fr {ops : Array Oper} {a : Act} (ha : Fr a n ρ) {j dj : Nat} (hj : (ops[j]?).bind (·.dst) = some dj) (hd : Nat.blt dj n = true) (b : Bool) (hv : ρ dj = .bool b) : yielded ops a.tmps j = some b := by
  have hd' : dj < n := by simpa [Nat.blt_eq] using hd
  have := ha.get dj
  rw [hv, Array.getD_eq_getD_getElem?] at this
  have hs : dj < a.tmps.size := by rw [ha.size]; exact hd'
  rw [Array.getElem?_eq_getElem hs] at this
  simp only [Option.getD_some] at this
  unfold yielded
  rw [hj]
  simp [Array.getElem?_eq_getElem hs, this]

theorem WL.stepG {ops : Array Oper} {rest : List Oper} {d : Nat} {op : Op} {ty : TypeId} {pos : String} {after : Array Edge} {j dj : Nat} {b : Bool} (hd : Nat.blt d n = true)
    (hj : (ops[j]?).bind (·.dst) = some dj) (hdj : Nat.blt dj n = true) (hv : ρ dj = .bool b)
    (h : OpT P ⟨some d, op, ty, pos, after, some (j, b)⟩ ρ w (fun v w' => WL P n ops Q rest (upd ρ d v) w')) : WL P n ops Q (⟨some d, op, ty, pos, after, some (j, b)⟩ :: rest) ρ w := by
  intro a ha
  refine wpList_step (fun K hK => ?_)
  have hy := yielded_fr ha hj hdj b hv
  rw [if_pos (by simp [Region.wanted, hy])]
  unfold Oper.wp
  rw [ha.eval]
  refine upon_mono (h a (lft n Q)) ?_ (fun _ _ _ _ hh => hh)
  rintro a' w' ⟨v, rfl, hv⟩
  exact hK _ _ (hv _ (ha.put hd v))
theorem WL.stepGN {ops : Array Oper} {rest : List Oper} {op : Op} {ty : TypeId} {pos : String} {after : Array Edge} {j dj : Nat} {b : Bool}
    (hj : (ops[j]?).bind (·.dst) = some dj) (hdj : Nat.blt dj n = true) (hv : ρ dj = .bool b)
    (h : OpT P ⟨none, op, ty, pos, after, some (j, b)⟩ ρ w (fun _ w' => WL P n ops Q rest ρ w')) : WL P n ops Q (⟨none, op, ty, pos, after, some (j, b)⟩ :: rest) ρ w := by
  intro a ha
  refine wpList_step (fun K hK => ?_)
  have hy := yielded_fr ha hj hdj b hv
  rw [if_pos (by simp [Region.wanted, hy])]
  unfold Oper.wp
  rw [ha.eval]
  refine upon_mono (h a (lft n Q)) ?_ (fun _ _ _ _ hh => hh)
  rintro a' w' ⟨v, rfl, hv⟩
  exact hK _ _ (hv _ (ha.none v))
/-- A guarded operation that is passed over: its guard said otherwise. -/
theorem WL.pass {ops : Array Oper} {rest : List Oper} {d : Nat} {op : Op} {ty : TypeId} {pos : String} {after : Array Edge} {j dj : Nat} {b c : Bool} (hd : Nat.blt d n = true)
    (hj : (ops[j]?).bind (·.dst) = some dj) (hdj : Nat.blt dj n = true) (hv : ρ dj = .bool c) (hne : (c == b) = false)
    (h : WL P n ops Q rest (upd ρ d undef) w) : WL P n ops Q (⟨some d, op, ty, pos, after, some (j, b)⟩ :: rest) ρ w := by
  intro a ha
  refine wpList_step (fun K hK => ?_)
  have hy := yielded_fr ha hj hdj c hv
  rw [if_neg (by simpa [Region.wanted, hy] using hne)]
  exact hK _ _ (h _ (ha.put hd undef))
theorem WL.passN {ops : Array Oper} {rest : List Oper} {op : Op} {ty : TypeId} {pos : String} {after : Array Edge} {j dj : Nat} {b c : Bool}
    (hj : (ops[j]?).bind (·.dst) = some dj) (hdj : Nat.blt dj n = true) (hv : ρ dj = .bool c) (hne : (c == b) = false)
    (h : WL P n ops Q rest ρ w) : WL P n ops Q (⟨none, op, ty, pos, after, some (j, b)⟩ :: rest) ρ w := by
  intro a ha
  refine wpList_step (fun K hK => ?_)
  have hy := yielded_fr ha hj hdj c hv
  rw [if_neg (by simpa [Region.wanted, hy] using hne)]
  exact hK _ _ (h _ (ha.none undef))
theorem yielded_no {ops : Array Oper} {a : Act} (ha : Fr a n ρ) {j dj : Nat} (hj : (ops[j]?).bind (·.dst) = some dj) (hv : ρ dj = undef) : yielded ops a.tmps j = none := by
  have := ha.get dj
  rw [hv, Array.getD_eq_getD_getElem?] at this
  unfold yielded
  rw [hj]
  cases h : a.tmps[dj]? with
  | none => simp [h]
  | some v =>
    rw [h] at this
    simp only [Option.getD_some] at this
    subst this
    simp [h, undef]
/-- .. its guard was itself passed over. -/
theorem WL.passU {ops : Array Oper} {rest : List Oper} {d : Nat} {op : Op} {ty : TypeId} {pos : String} {after : Array Edge} {j dj : Nat} {b : Bool} (hd : Nat.blt d n = true)
    (hj : (ops[j]?).bind (·.dst) = some dj) (hv : ρ dj = undef)
    (h : WL P n ops Q rest (upd ρ d undef) w) : WL P n ops Q (⟨some d, op, ty, pos, after, some (j, b)⟩ :: rest) ρ w := by
  intro a ha
  refine wpList_step (fun K hK => ?_)
  have hy := yielded_no ha hj hv
  rw [if_neg (by simp [Region.wanted, hy])]
  exact hK _ _ (h _ (ha.put hd undef))

/-! the function's end -/
inductive Vals (P : Program) (ρ : Env) (w : World) : List ResultVar → List Value → Prop where
  | nil : Vals P ρ w [] []
  | tmp {u : Tmp} {rs : List ResultVar} {vs : List Value} (v : Value) (h1 : ρ u = v) (h : Vals P ρ w rs vs) : Vals P ρ w (.tmp u :: rs) (v :: vs)
  | cell {p : Tmp} {ty : TypeId} {rs : List ResultVar} {vs : List Value} (v : Value) (ad : Addr) (h1 : ρ p = .pointer (some ad)) (h2 : (loadVar ty ad).run P w = .ok v w) (h : Vals P ρ w rs vs) : Vals P ρ w (.cell p ty :: rs) (v :: vs)
def resV : List Value → Value
  | [v] => v
  | l => .tuple l.toArray

theorem vals_run {rs : List ResultVar} {vs : List Value} {tmps : Array Value} (ht : ∀ t, tmps.getD t undef = ρ t) (hv : Vals P ρ w rs vs) (f : ResultVar → Sem Value) (hf : ∀ u, f (.tmp u) = pure (tmps.getD u undef))
    (hc : ∀ a t, f (.cell a t) = (do loadVar t (← asAddr (tmps.getD a undef)))) : (rs.mapM f).run P w = .ok vs w := by
  induction hv with
  | nil => simp
  | tmp v h1 h ih => simp [List.mapM_cons, hf, ih, ht, h1]
  | cell v ad h1 h2 h ih =>
    rw [List.mapM_cons, hc, ht, h1]
    simp [asAddr, h2, ih]
theorem results_vals {fn : Func} {rs : List ResultVar} {vs : List Value} {tmps : Array Value} (h : fn.results = rs.toArray) (ht : ∀ t, tmps.getD t undef = ρ t) (hv : Vals P ρ w rs vs) :
    (results fn tmps).run P w = .ok (resV vs) w := by
  unfold results
  rw [h, List.mapM_toArray]
  simp only [Sem.run_bind, Sem.run_map]
  rw [vals_run ht hv]
  · match vs with
    | [] => simp [resV]
    | [v] => simp [resV]
    | v :: u :: l => simp [resV]
  · intro u; rfl
  · intro a t; rfl

def retQ (P : Program) (rs : List ResultVar) (R : Ending → World → Prop) : QP
  | .ret, ρ, w | .normal, ρ, w => ∃ vs, Vals P ρ w rs vs ∧ R (.returned (resV vs)) w
  | _, _, _ => False
theorem retQ.one {R : Ending → World → Prop} {t : Nat} (v : Value) (hv : ρ t = v) (h : R (.returned v) w) : retQ P [.tmp t] R .ret ρ w := ⟨[v], .tmp v hv .nil, h⟩
theorem retQ.two {R : Ending → World → Prop} {t u : Nat} (v1 v2 : Value) (hv : ρ t = v1) (hv2 : ρ u = v2) (h : R (.returned (.tuple #[v1, v2])) w) : retQ P [.tmp t, .tmp u] R .ret ρ w := ⟨[v1, v2], .tmp v1 hv (.tmp v2 hv2 .nil), h⟩
theorem retQ.three {R : Ending → World → Prop} {t u s : Nat} (v1 v2 v3 : Value) (hv : ρ t = v1) (hv2 : ρ u = v2) (hv3 : ρ s = v3) (h : R (.returned (.tuple #[v1, v2, v3])) w) : retQ P [.tmp t, .tmp u, .tmp s] R .ret ρ w :=
  ⟨[v1, v2, v3], .tmp v1 hv (.tmp v2 hv2 (.tmp v3 hv3 .nil)), h⟩
theorem retQ.none {R : Ending → World → Prop} {ex : Exit} (hx : ex = .normal ∨ ex = .ret) (h : R (.returned (.tuple #[])) w) : retQ P [] R ex ρ w := by
  rcases hx with rfl | rfl <;> exact ⟨[], .nil, h⟩
theorem retQ.cell {R : Ending → World → Prop} {t : Nat} {ty : TypeId} (v : Value) (ad : Addr) (h1 : ρ t = .pointer (some ad)) (h2 : (loadVar ty ad).run P w = .ok v w) (h : R (.returned v) w) : retQ P [.cell t ty] R .ret ρ w :=
  ⟨[v], .cell v ad h1 h2 .nil, h⟩

theorem calls_of_WC {f : FuncId} {fn : Func} {c : Code} {args : List Value} {R : Ending → World → Prop} {rs : List ResultVar} {m : Nat}
    (hf : P.funcs[f]? = some fn) (hb : fn.body = some c) (hr : fn.results = rs.toArray) (hm : fn.ntmps = m) (hn : Nat.ble args.length m = true)
    (h : WC P m c (retQ P rs R) (env0 args) w) : Calls P f args.toArray w R := by
  subst hm
  refine calls_of_wp hf hb (wp_mono (h _ ?_) ?_)
  · have hn' : args.length ≤ fn.ntmps := by simpa [Nat.ble_eq] using hn
    refine ⟨rfl, by simp; omega, fun t => ?_⟩
    simp only [env0, Array.getD_eq_getD_getElem?, List.getD_eq_getElem?_getD]
    rw [Array.getElem?_append]
    split
    · simp
    · rename_i h
      simp only [List.size_toArray, Nat.not_lt] at h
      rw [List.getElem?_eq_none h]
      simp [Array.getElem?_replicate]
      split <;> rfl
  · rintro e a' w' ⟨ρ', hf', hq⟩
    cases e with
    | ret => obtain ⟨vs, hv, hR⟩ := hq; exact ⟨hf'.defers, _, results_vals hr hf'.get hv, hR⟩
    | normal => obtain ⟨vs, hv, hR⟩ := hq; exact ⟨hf'.defers, _, results_vals hr hf'.get hv, hR⟩
    | _ => exact hq.elim
end
end Go.Eng
