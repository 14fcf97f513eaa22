/- Parts EngA, EngB, EngC, EngD, EngE, EngF, EngG, EngH, EngI, EngJ, EngK, EngL, EngM, EngN, EngO, EngR, Iter, Dat, F1, F2, F3 of the proof. -/
import Derived.WalkKit
import Derived.Scope
import Derived.ScopeJumps
import Derived.Maps.AppendAt
import Derived.Lib.ConvBytes
import Derived.Laws.StructEq
import Derived.StillTail
import Derived.Maps.RangeRun
import Derived.Laws.Slices
import Derived.Laws.MakeOwn
import Derived.Laws.Small
import Derived.SizedLaws
import Derived.ProofKit
import Derived.Shelf.SlIter.Nil
import Derived.Shelf.SortM.Plain
import Derived.Shelf.SortM.SortNone
import Derived.Ground.GgzProg
import Derived.Ground.SlgmProg
import Derived.Test.YtojkakpkmfopbaaGreatProg
namespace Go.Eng
open Go.RowKit

abbrev Env := Nat → Value
def upd (ρ : Env) (d : Nat) (v : Value) : Env := fun t => bif Nat.beq t d then v else ρ t
def env0 (l : List Value) : Env := fun t => l.getD t undef
def evO (ρ : Env) : Operand → Value
  | .tmp t => ρ t
  | .const v => v
  | .global g => .pointer (some ⟨g, 0, none⟩)
  | .func f => .func (.func f) #[] #[]

structure Fr (a : Act) (n : Nat) (ρ : Env) : Prop where
  defers : a.defers = []
  size : a.tmps.size = n
  get : ∀ t, a.tmps.getD t undef = ρ t

theorem Fr.eval {a : Act} {n : Nat} {ρ : Env} (h : Fr a n ρ) : a.eval = evO ρ := by
  funext x
  cases x with
  | tmp t => exact h.get t
  | const v => rfl
  | global g => rfl
  | func f => rfl

theorem Fr.put {a : Act} {n : Nat} {ρ : Env} (h : Fr a n ρ) {d : Nat} (hd : Nat.blt d n = true) (v : Value) : Fr (a.put (some d) v) n (upd ρ d v) := by
  have hd' : d < n := by simpa [Nat.blt_eq] using hd
  refine ⟨h.defers, by simp [Act.put, h.size], fun t => ?_⟩
  have hg := h.get t
  simp only [Act.put, upd]
  by_cases e : t = d
  · subst e
    simp [Array.getD_eq_getD_getElem?, h.size, hd']
  · have e' : Nat.beq t d = false := by
      cases hb : Nat.beq t d
      · rfl
      · exact absurd (Nat.eq_of_beq_eq_true hb) e
    rw [e', cond_false, ← hg]
    simp only [Array.getD_eq_getD_getElem?]
    rw [Array.getElem?_setIfInBounds_ne (Ne.symm e)]

theorem Fr.none {a : Act} {n : Nat} {ρ : Env} (h : Fr a n ρ) (v : Value) : Fr (a.put .none v) n ρ := h

abbrev QP := Exit → Env → World → Prop
def lft (n : Nat) (Q : QP) : Exit → Act → World → Prop := fun ex a w => ∃ ρ, Fr a n ρ ∧ Q ex ρ w

def WC (P : Program) (n : Nat) (c : Code) (Q : QP) (ρ : Env) (w : World) : Prop := ∀ a, Fr a n ρ → c.wp P (lft n Q) a w
def WL (P : Program) (n : Nat) (ops : Array Oper) (Q : QP) (rest : List Oper) (ρ : Env) (w : World) : Prop :=
  ∀ a, Fr a n ρ → wpList P ops (lft n Q) rest a w

def thenQ (next : Env → World → Prop) (Q : QP) : QP
  | .normal, ρ, w => next ρ w
  | e, ρ, w => Q e ρ w
def blkQ (id : Nat) (Q : QP) : QP
  | .exit id', ρ, w => if id' = id then Q .normal ρ w else Q (.exit id') ρ w
  | e, ρ, w => Q e ρ w
def loopQ (I : Nat → Env → World → Prop) (m : Nat) (Q : QP) : QP
  | .normal, ρ, w => ∃ m', m' < m ∧ I m' ρ w
  | e, ρ, w => Q e ρ w

section
variable {P : Program} {n : Nat} {Q : QP} {ρ : Env} {w : World}

theorem WC.mono {c : Code} {Q' : QP} (h : WC P n c Q ρ w) (hq : ∀ e ρ w, Q e ρ w → Q' e ρ w) : WC P n c Q' ρ w :=
  fun a ha => wp_mono (h a ha) (fun _ _ _ ⟨ρ', h1, h2⟩ => ⟨ρ', h1, hq _ _ _ h2⟩)

theorem WC.seq {x y : Code} (h : WC P n x (thenQ (WC P n y Q) Q) ρ w) : WC P n (.seq x y) Q ρ w := by
  intro a ha
  refine wp_seq (wp_mono (h a ha) ?_)
  rintro e a' w' ⟨ρ', hf, hq⟩
  cases e <;> first | exact hq a' hf | exact ⟨ρ', hf, hq⟩

theorem WC.block {id : Nat} {c : Code} (h : WC P n c (blkQ id Q) ρ w) : WC P n (.block id c) Q ρ w := by
  intro a ha
  refine wp_block (wp_mono (h a ha) ?_)
  rintro e a' w' ⟨ρ', hf, hq⟩
  cases e with
  | exit id' =>
    simp only [Exit.inBlock, blkQ] at *
    split
    · rename_i h; rw [if_pos h] at hq; exact ⟨ρ', hf, hq⟩
    · rename_i h; rw [if_neg h] at hq; exact ⟨ρ', hf, hq⟩
  | _ => exact ⟨ρ', hf, hq⟩

theorem WC.skip (h : Q .normal ρ w) : WC P n .skip Q ρ w := fun _ ha => wp_skip ⟨ρ, ha, h⟩
theorem WC.ret (h : Q .ret ρ w) : WC P n .ret Q ρ w := fun _ ha => wp_ret ⟨ρ, ha, h⟩
theorem WC.exit {id : Nat} (h : Q (.exit id) ρ w) : WC P n (.exit id) Q ρ w := fun _ ha => wp_exit ⟨ρ, ha, h⟩
theorem WC.goto {l : Nat} (h : Q (.goto l) ρ w) : WC P n (.goto l) Q ρ w := fun _ ha => wp_goto ⟨ρ, ha, h⟩
theorem WC.label {l : Nat} (h : Q .normal ρ w) : WC P n (.label l) Q ρ w := fun _ ha => wp_label ⟨ρ, ha, h⟩

theorem WC.cond {c : Operand} {x y : Code} (b : Bool) (hc : evO ρ c = .bool b) (ht : b = true → WC P n x Q ρ w) (hf : b = false → WC P n y Q ρ w) : WC P n (.cond c x y) Q ρ w := by
  intro a ha
  exact wp_cond_split (t := b) (by rw [ha.eval]; exact hc) (fun h => ht h a ha) (fun h => hf h a ha)
theorem WC.condP {c : Operand} {x y : Code} (p : Prop) [Decidable p] (hc : evO ρ c = .bool (decide p)) (ht : p → WC P n x Q ρ w) (hf : ¬ p → WC P n y Q ρ w) : WC P n (.cond c x y) Q ρ w :=
  WC.cond _ hc (fun h => ht (of_decide_eq_true h)) (fun h => hf (of_decide_eq_false h))
theorem WC.condT {c : Operand} {x y : Code} (hc : evO ρ c = .bool true) (ht : WC P n x Q ρ w) : WC P n (.cond c x y) Q ρ w := WC.cond true hc (fun _ => ht) (fun h => by cases h)
theorem WC.condF {c : Operand} {x y : Code} (hc : evO ρ c = .bool false) (hf : WC P n y Q ρ w) : WC P n (.cond c x y) Q ρ w := WC.cond false hc (fun h => by cases h) (fun _ => hf)

theorem least_of {p : Nat → Prop} (h : ∃ n, p n) : ∃ n, p n ∧ ∀ m, p m → n ≤ m := by
  obtain ⟨n, hn⟩ := h
  induction n using Nat.strongRecOn with
  | _ n ih =>
    by_cases h : ∃ m, m < n ∧ p m
    · obtain ⟨m, hm, hp⟩ := h
      exact ih m hm hp
    · exact ⟨n, hn, fun m hp => Nat.le_of_not_lt (fun hlt => h ⟨m, hlt, hp⟩)⟩

theorem WC.loop {c : Code} (I : Nat → Env → World → Prop) (m : Nat) (h0 : I m ρ w) (round : ∀ m ρ w, I m ρ w → WC P n c (loopQ I m Q) ρ w) : WC P n (.loop c) Q ρ w := by
  intro a ha
  classical
  let J : Act → World → Prop := fun a w => ∃ m ρ, Fr a n ρ ∧ I m ρ w
  let μ : Act → World → Nat := fun a w => if h : J a w then Classical.choose (least_of (p := fun m => ∃ ρ, Fr a n ρ ∧ I m ρ w) h) else 0
  refine wp_loop J μ ⟨m, ρ, ha, h0⟩ ?_
  intro a w hJ
  have hs : ∃ ρ, Fr a n ρ ∧ I (μ a w) ρ w := by
    have : μ a w = Classical.choose (least_of (p := fun m => ∃ ρ, Fr a n ρ ∧ I m ρ w) hJ) := dif_pos hJ
    rw [this]
    exact (Classical.choose_spec (least_of (p := fun m => ∃ ρ, Fr a n ρ ∧ I m ρ w) hJ)).1
  obtain ⟨ρ, hf, hI⟩ := hs
  refine wp_mono (round _ _ _ hI a hf) ?_
  rintro e a' w' ⟨ρ', hf', hq⟩
  cases e with
  | normal =>
    obtain ⟨m', hm, hI'⟩ := hq
    have hJ' : J a' w' := ⟨m', ρ', hf', hI'⟩
    refine ⟨hJ', Nat.lt_of_le_of_lt ?_ hm⟩
    have : μ a' w' = Classical.choose (least_of (p := fun m => ∃ ρ, Fr a' n ρ ∧ I m ρ w') hJ') := dif_pos hJ'
    rw [this]
    exact (Classical.choose_spec (least_of (p := fun m => ∃ ρ, Fr a' n ρ ∧ I m ρ w') hJ')).2 _ ⟨ρ', hf', hI'⟩
  | _ => exact ⟨ρ', hf', hq⟩

theorem WC.region {id : Nat} {l : List Oper} (h : WL P n l.toArray Q l ρ w) : WC P n (.region id l.toArray false) Q ρ w :=
  fun a ha => wp_region_lit (h a ha)

theorem WL.nil {ops : Array Oper} (h : Q .normal ρ w) : WL P n ops Q [] ρ w := fun _ ha => wpList_nil ⟨ρ, ha, h⟩

/-- One operation, its guard aside. -/
def OpT (P : Program) (o : Oper) (ρ : Env) (w : World) (K : Value → World → Prop) : Prop :=
  ∀ (a : Act) (Q : Exit → Act → World → Prop), o.upon P a (fun a' w' => ∃ v, a' = a.put o.dst v ∧ K v w') Q ((execOp (evO ρ) o).run P w)

theorem OpT.val {o : Oper} {K : Value → World → Prop} {v : Value} {w' : World} (h : (execOp (evO ρ) o).run P w = .ok (.value v) w') (hK : K v w') : OpT P o ρ w K := by
  intro a Q
  rw [h, Oper.upon_value]
  exact ⟨v, rfl, hK⟩
theorem OpT.skp {o : Oper} {K : Value → World → Prop} {w' : World} (h : (execOp (evO ρ) o).run P w = .ok .skip w') (hK : K undef w') : OpT P o ρ w K := by
  intro a Q
  rw [h, Oper.upon_skip]
  exact ⟨undef, rfl, hK⟩
theorem OpT.ent {o : Oper} {K : Value → World → Prop} {f : FuncId} {args : Array Value} {w' : World} (h : (execOp (evO ρ) o).run P w = .ok (.enter f args) w')
    (hc : Calls P f args w' (fun e w'' => ∃ v, e = .returned v ∧ K v w'')) : OpT P o ρ w K := by
  intro a Q
  rw [h, Oper.upon_enter]
  refine hc.mono ?_
  rintro e w'' ⟨v, rfl, hK⟩
  exact ⟨v, rfl, hK⟩

theorem upon_mono {o : Oper} {a : Act} {next next' : Act → World → Prop} {Q Q' : Exit → Act → World → Prop} {r : Result Next} (h : o.upon P a next Q r) (hn : ∀ a w, next a w → next' a w) (hq : ∀ e a w, e ≠ .normal → Q e a w → Q' e a w) : o.upon P a next' Q' r := by
  unfold Oper.upon at *
  split at h
  · exact hn _ _ h
  · exact hn _ _ h
  · exact hn _ _ h
  · refine Calls.mono h ?_
    intro e w'' hh
    cases e with
    | returned v => exact hn _ _ hh
    | panicked ch => exact hq _ _ _ (by simp) hh
    | outgrown =>
      obtain ⟨a, w, hl⟩ := hh
      exact ⟨a, w, hq _ _ _ (by simp) hl⟩
  · exact Rows.mono h (fun _ _ hh => hn _ _ hh)
  · exact hq _ _ _ (by simp) h
  · exact h.elim

theorem WL.step {ops : Array Oper} {rest : List Oper} {d : Nat} {op : Op} {ty : TypeId} {pos : String} {after : Array Edge} (hd : Nat.blt d n = true)
    (h : OpT P ⟨some d, op, ty, pos, after, none⟩ ρ w (fun v w' => WL P n ops Q rest (upd ρ d v) w')) : WL P n ops Q (⟨some d, op, ty, pos, after, none⟩ :: rest) ρ w := by
  intro a ha
  refine wpList_plain rfl (fun K hK => ?_)
  unfold Oper.wp
  rw [ha.eval]
  refine upon_mono (h a (lft n Q)) ?_ (fun _ _ _ _ hh => hh)
  rintro a' w' ⟨v, rfl, hv⟩
  exact hK _ _ (hv _ (ha.put hd v))
theorem WL.stepN {ops : Array Oper} {rest : List Oper} {op : Op} {ty : TypeId} {pos : String} {after : Array Edge}
    (h : OpT P ⟨none, op, ty, pos, after, none⟩ ρ w (fun _ w' => WL P n ops Q rest ρ w')) : WL P n ops Q (⟨none, op, ty, pos, after, none⟩ :: rest) ρ w := by
  intro a ha
  refine wpList_plain rfl (fun K hK => ?_)
  unfold Oper.wp
  rw [ha.eval]
  refine upon_mono (h a (lft n Q)) ?_ (fun _ _ _ _ hh => hh)
  rintro a' w' ⟨v, rfl, hv⟩
  exact hK _ _ (hv _ (ha.none v))

theorem yielded_fr {ops : Array Oper} {a : Act} (ha : Fr a n ρ) {j dj : Nat} (hj : (ops[j]?).bind (·.dst) = some dj) (hd : Nat.blt dj n = true) (b : Bool) (hv : ρ dj = .bool b) : yielded ops a.tmps j = some b := by
  have hd' : dj < n := by simpa [Nat.blt_eq] using hd
  have := ha.get dj
  rw [hv, Array.getD_eq_getD_getElem?] at this
  have hs : dj < a.tmps.size := by rw [ha.size]; exact hd'
  rw [Array.getElem?_eq_getElem hs] at this
  simp only [Option.getD_some] at this
  unfold yielded
  rw [hj]
  simp [Array.getElem?_eq_getElem hs, this]

theorem WL.stepG {ops : Array Oper} {rest : List Oper} {d : Nat} {op : Op} {ty : TypeId} {pos : String} {after : Array Edge} {j dj : Nat} {b : Bool} (hd : Nat.blt d n = true)
    (hj : (ops[j]?).bind (·.dst) = some dj) (hdj : Nat.blt dj n = true) (hv : ρ dj = .bool b)
    (h : OpT P ⟨some d, op, ty, pos, after, some (j, b)⟩ ρ w (fun v w' => WL P n ops Q rest (upd ρ d v) w')) : WL P n ops Q (⟨some d, op, ty, pos, after, some (j, b)⟩ :: rest) ρ w := by
  intro a ha
  refine wpList_step (fun K hK => ?_)
  have hy := yielded_fr ha hj hdj b hv
  rw [if_pos (by simp [Region.wanted, hy])]
  unfold Oper.wp
  rw [ha.eval]
  refine upon_mono (h a (lft n Q)) ?_ (fun _ _ _ _ hh => hh)
  rintro a' w' ⟨v, rfl, hv⟩
  exact hK _ _ (hv _ (ha.put hd v))
theorem WL.stepGN {ops : Array Oper} {rest : List Oper} {op : Op} {ty : TypeId} {pos : String} {after : Array Edge} {j dj : Nat} {b : Bool}
    (hj : (ops[j]?).bind (·.dst) = some dj) (hdj : Nat.blt dj n = true) (hv : ρ dj = .bool b)
    (h : OpT P ⟨none, op, ty, pos, after, some (j, b)⟩ ρ w (fun _ w' => WL P n ops Q rest ρ w')) : WL P n ops Q (⟨none, op, ty, pos, after, some (j, b)⟩ :: rest) ρ w := by
  intro a ha
  refine wpList_step (fun K hK => ?_)
  have hy := yielded_fr ha hj hdj b hv
  rw [if_pos (by simp [Region.wanted, hy])]
  unfold Oper.wp
  rw [ha.eval]
  refine upon_mono (h a (lft n Q)) ?_ (fun _ _ _ _ hh => hh)
  rintro a' w' ⟨v, rfl, hv⟩
  exact hK _ _ (hv _ (ha.none v))
/-- A guarded operation that is passed over: its guard said otherwise. -/
theorem WL.pass {ops : Array Oper} {rest : List Oper} {d : Nat} {op : Op} {ty : TypeId} {pos : String} {after : Array Edge} {j dj : Nat} {b c : Bool} (hd : Nat.blt d n = true)
    (hj : (ops[j]?).bind (·.dst) = some dj) (hdj : Nat.blt dj n = true) (hv : ρ dj = .bool c) (hne : (c == b) = false)
    (h : WL P n ops Q rest (upd ρ d undef) w) : WL P n ops Q (⟨some d, op, ty, pos, after, some (j, b)⟩ :: rest) ρ w := by
  intro a ha
  refine wpList_step (fun K hK => ?_)
  have hy := yielded_fr ha hj hdj c hv
  rw [if_neg (by simpa [Region.wanted, hy] using hne)]
  exact hK _ _ (h _ (ha.put hd undef))
theorem WL.passN {ops : Array Oper} {rest : List Oper} {op : Op} {ty : TypeId} {pos : String} {after : Array Edge} {j dj : Nat} {b c : Bool}
    (hj : (ops[j]?).bind (·.dst) = some dj) (hdj : Nat.blt dj n = true) (hv : ρ dj = .bool c) (hne : (c == b) = false)
    (h : WL P n ops Q rest ρ w) : WL P n ops Q (⟨none, op, ty, pos, after, some (j, b)⟩ :: rest) ρ w := by
  intro a ha
  refine wpList_step (fun K hK => ?_)
  have hy := yielded_fr ha hj hdj c hv
  rw [if_neg (by simpa [Region.wanted, hy] using hne)]
  exact hK _ _ (h _ (ha.none undef))
theorem yielded_no {ops : Array Oper} {a : Act} (ha : Fr a n ρ) {j dj : Nat} (hj : (ops[j]?).bind (·.dst) = some dj) (hv : ρ dj = undef) : yielded ops a.tmps j = none := by
  have := ha.get dj
  rw [hv, Array.getD_eq_getD_getElem?] at this
  unfold yielded
  rw [hj]
  cases h : a.tmps[dj]? with
  | none => simp [h]
  | some v =>
    rw [h] at this
    simp only [Option.getD_some] at this
    subst this
    simp [h, undef]
/-- .. its guard was itself passed over. -/
theorem WL.passU {ops : Array Oper} {rest : List Oper} {d : Nat} {op : Op} {ty : TypeId} {pos : String} {after : Array Edge} {j dj : Nat} {b : Bool} (hd : Nat.blt d n = true)
    (hj : (ops[j]?).bind (·.dst) = some dj) (hv : ρ dj = undef)
    (h : WL P n ops Q rest (upd ρ d undef) w) : WL P n ops Q (⟨some d, op, ty, pos, after, some (j, b)⟩ :: rest) ρ w := by
  intro a ha
  refine wpList_step (fun K hK => ?_)
  have hy := yielded_no ha hj hv
  rw [if_neg (by simp [Region.wanted, hy])]
  exact hK _ _ (h _ (ha.put hd undef))

/-! the function's end -/
inductive Vals (P : Program) (ρ : Env) (w : World) : List ResultVar → List Value → Prop where
  | nil : Vals P ρ w [] []
  | tmp {u : Tmp} {rs : List ResultVar} {vs : List Value} (v : Value) (h1 : ρ u = v) (h : Vals P ρ w rs vs) : Vals P ρ w (.tmp u :: rs) (v :: vs)
  | cell {p : Tmp} {ty : TypeId} {rs : List ResultVar} {vs : List Value} (v : Value) (ad : Addr) (h1 : ρ p = .pointer (some ad)) (h2 : (loadVar ty ad).run P w = .ok v w) (h : Vals P ρ w rs vs) : Vals P ρ w (.cell p ty :: rs) (v :: vs)
def resV : List Value → Value
  | [v] => v
  | l => .tuple l.toArray

theorem vals_run {rs : List ResultVar} {vs : List Value} {tmps : Array Value} (ht : ∀ t, tmps.getD t undef = ρ t) (hv : Vals P ρ w rs vs) (f : ResultVar → Sem Value) (hf : ∀ u, f (.tmp u) = pure (tmps.getD u undef))
    (hc : ∀ a t, f (.cell a t) = (do loadVar t (← asAddr (tmps.getD a undef)))) : (rs.mapM f).run P w = .ok vs w := by
  induction hv with
  | nil => simp
  | tmp v h1 h ih => simp [List.mapM_cons, hf, ih, ht, h1]
  | cell v ad h1 h2 h ih =>
    rw [List.mapM_cons, hc, ht, h1]
    simp [asAddr, h2, ih]
theorem results_vals {fn : Func} {rs : List ResultVar} {vs : List Value} {tmps : Array Value} (h : fn.results = rs.toArray) (ht : ∀ t, tmps.getD t undef = ρ t) (hv : Vals P ρ w rs vs) :
    (results fn tmps).run P w = .ok (resV vs) w := by
  unfold results
  rw [h, List.mapM_toArray]
  simp only [Sem.run_bind, Sem.run_map]
  rw [vals_run ht hv]
  · match vs with
    | [] => simp [resV]
    | [v] => simp [resV]
    | v :: u :: l => simp [resV]
  · intro u; rfl
  · intro a t; rfl

def retQ (P : Program) (rs : List ResultVar) (R : Ending → World → Prop) : QP
  | .ret, ρ, w | .normal, ρ, w => ∃ vs, Vals P ρ w rs vs ∧ R (.returned (resV vs)) w
  | _, _, _ => False
theorem retQ.one {R : Ending → World → Prop} {t : Nat} (v : Value) (hv : ρ t = v) (h : R (.returned v) w) : retQ P [.tmp t] R .ret ρ w := ⟨[v], .tmp v hv .nil, h⟩
theorem retQ.two {R : Ending → World → Prop} {t u : Nat} (v1 v2 : Value) (hv : ρ t = v1) (hv2 : ρ u = v2) (h : R (.returned (.tuple #[v1, v2])) w) : retQ P [.tmp t, .tmp u] R .ret ρ w := ⟨[v1, v2], .tmp v1 hv (.tmp v2 hv2 .nil), h⟩
theorem retQ.three {R : Ending → World → Prop} {t u s : Nat} (v1 v2 v3 : Value) (hv : ρ t = v1) (hv2 : ρ u = v2) (hv3 : ρ s = v3) (h : R (.returned (.tuple #[v1, v2, v3])) w) : retQ P [.tmp t, .tmp u, .tmp s] R .ret ρ w :=
  ⟨[v1, v2, v3], .tmp v1 hv (.tmp v2 hv2 (.tmp v3 hv3 .nil)), h⟩
theorem retQ.none {R : Ending → World → Prop} {ex : Exit} (hx : ex = .normal ∨ ex = .ret) (h : R (.returned (.tuple #[])) w) : retQ P [] R ex ρ w := by
  rcases hx with rfl | rfl <;> exact ⟨[], .nil, h⟩
theorem retQ.cell {R : Ending → World → Prop} {t : Nat} {ty : TypeId} (v : Value) (ad : Addr) (h1 : ρ t = .pointer (some ad)) (h2 : (loadVar ty ad).run P w = .ok v w) (h : R (.returned v) w) : retQ P [.cell t ty] R .ret ρ w :=
  ⟨[v], .cell v ad h1 h2 .nil, h⟩

theorem calls_of_WC {f : FuncId} {fn : Func} {c : Code} {args : List Value} {R : Ending → World → Prop} {rs : List ResultVar} {m : Nat}
    (hf : P.funcs[f]? = some fn) (hb : fn.body = some c) (hr : fn.results = rs.toArray) (hm : fn.ntmps = m) (hn : Nat.ble args.length m = true)
    (h : WC P m c (retQ P rs R) (env0 args) w) : Calls P f args.toArray w R := by
  subst hm
  refine calls_of_wp hf hb (wp_mono (h _ ?_) ?_)
  · have hn' : args.length ≤ fn.ntmps := by simpa [Nat.ble_eq] using hn
    refine ⟨rfl, by simp; omega, fun t => ?_⟩
    simp only [env0, Array.getD_eq_getD_getElem?, List.getD_eq_getElem?_getD]
    rw [Array.getElem?_append]
    split
    · simp
    · rename_i h
      simp only [List.size_toArray, Nat.not_lt] at h
      rw [List.getElem?_eq_none h]
      simp [Array.getElem?_replicate]
      split <;> rfl
  · rintro e a' w' ⟨ρ', hf', hq⟩
    cases e with
    | ret => obtain ⟨vs, hv, hR⟩ := hq; exact ⟨hf'.defers, _, results_vals hr hf'.get hv, hR⟩
    | normal => obtain ⟨vs, hv, hR⟩ := hq; exact ⟨hf'.defers, _, results_vals hr hf'.get hv, hR⟩
    | _ => exact hq.elim
end
end Go.Eng
namespace Go.Eng
open Go.RowKit

structure Res where
  P : World → (Nat → Prop) → Prop
  loc : ∀ {w w' : World} {S : Nat → Prop}, P w S → (∀ k, S k → w'.heap[k]? = w.heap[k]?) → P w' S

/-- Z's blocks lie as in w0; the pieces L lie apart from Z and from one another. -/
structure St (Z : Nat → Prop) (w0 w : World) (L : List Res) : Prop where
  os : w.os = w0.os
  tape : w.tape = w0.tape
  output : w.output = w0.output
  size : w0.heap.size ≤ w.heap.size
  dom : ∀ k, Z k → k < w0.heap.size
  old : ∀ k, Z k → w.heap[k]? = w0.heap[k]?
  sep : ∃ F : Nat → Nat → Prop, (∀ (i : Nat) (r : Res), L[i]? = some r → r.P w (F i)) ∧ (∀ i j k, i ≠ j → F i k → ¬ F j k) ∧ (∀ i k, F i k → k < w.heap.size ∧ ¬ Z k)

/-- A block of known cells. -/
def Blk (b : Nat) (t : TypeId) (cs : List Value) : Res where
  P w S := (∀ k, S k ↔ k = b) ∧ w.heap[b]? = some (.cells cs.toArray t (0, 0))
  loc := fun ⟨h1, h2⟩ h => ⟨h1, (h b ((h1 b).2 rfl)).trans h2⟩
/-- An object that is no row of cells (a map, an iterator). -/
def Obk (b : Nat) (o : Obj) : Res where
  P w S := (∀ k, S k ↔ k = b) ∧ w.heap[b]? = some o
  loc := fun ⟨h1, h2⟩ h => ⟨h1, (h b ((h1 b).2 rfl)).trans h2⟩
/-- A slice of one's own, whatever its spare room: its cells. -/
def Row (e sz : Nat) (v : Value) (n : Nat) (cs : List Value) : Res where
  P w S := (∀ k, S k ↔ v.ownBlock = some k) ∧ w.ownsRow 0 e sz v n cs
  loc := fun ⟨h1, h2⟩ h => ⟨h1, by
    refine ⟨h2.1, ?_⟩
    rcases h2.2 with hn | ⟨g, cap, cur, rfl, hb, hgg, rest⟩
    · exact .inl hn
    · exact .inr ⟨g, cap, cur, rfl, hb, (h g ((h1 g).2 rfl)).trans hgg, rest⟩⟩
/-- A pure fact as a piece. -/
def Fact (p : Prop) : Res where
  P _ S := (∀ k, ¬ S k) ∧ p
  loc := fun h _ => h

section
variable {Z : Nat → Prop} {w0 w : World} {L : List Res}

theorem St.start (w : World) : St (fun k => k < w.heap.size) w w [] :=
  ⟨rfl, rfl, rfl, Nat.le_refl _, fun _ h => h, fun _ _ => rfl, fun _ _ => False, fun i r h => by simp at h, fun _ _ _ _ h => h.elim, fun _ _ h => h.elim⟩

theorem St.below {w0 w : World} {L : List Res} (st : St (fun k => k < w0.heap.size) w0 w L) : Below w0.heap.size w0 w :=
  ⟨st.os, st.tape, st.output, st.size, fun k hk => st.old k hk⟩

theorem St.drew (st : St Z w0 w L) : St Z w0 w.drew L :=
  let ⟨F, h1, h2, h3⟩ := st.sep
  ⟨st.os, st.tape, st.output, st.size, st.dom, st.old, F, fun i r hr => r.loc (h1 i r hr) (fun _ _ => rfl), h2, h3⟩

/-- What lies in a world that turned nothing below its size. -/
theorem St.grow {w' : World} (st : St Z w0 w L) (h : Below w.heap.size w w') : St Z w0 w' L := by
  obtain ⟨F, h1, h2, h3⟩ := st.sep
  refine ⟨h.os.trans st.os, h.tape.trans st.tape, h.output.trans st.output, Nat.le_trans st.size h.size, st.dom, fun k hk => (h.block k ?_).trans (st.old k hk), F, fun i r hr => r.loc (h1 i r hr) (fun k hk => h.block k (h3 i k hk).1), h2, fun i k hk => ⟨Nat.lt_of_lt_of_le (h3 i k hk).1 h.size, (h3 i k hk).2⟩⟩
  have := st.dom k hk
  have := st.size
  omega

/-- A new piece, made of new blocks alone. -/
theorem St.cons {w' : World} (st : St Z w0 w L) (h : Below w.heap.size w w') (r : Res) (S : Nat → Prop) (hr : r.P w' S) (hS : ∀ k, S k → w.heap.size ≤ k ∧ k < w'.heap.size) : St Z w0 w' (r :: L) := by
  have st' := st.grow h
  obtain ⟨F, h1, h2, h3⟩ := st.sep
  refine ⟨st'.os, st'.tape, st'.output, st'.size, st'.dom, st'.old, fun i => match i with | 0 => S | i + 1 => F i, ?_, ?_, ?_⟩
  · intro i r' hr'
    cases i with
    | zero => simp at hr'; subst hr'; exact hr
    | succ i => exact r'.loc (h1 i r' (by simpa using hr')) (fun k hk => h.block k (h3 i k hk).1)
  · intro i j k hij hi hj
    cases i with
    | zero =>
      cases j with
      | zero => exact hij rfl
      | succ j => have := (hS k hi).1; have := (h3 j k hj).1; omega
    | succ i =>
      cases j with
      | zero => have := (hS k hj).1; have := (h3 i k hi).1; omega
      | succ j => exact h2 i j k (fun e => hij (by rw [e])) hi hj
  · intro i k hk
    cases i with
    | zero =>
      refine ⟨(hS k hk).2, fun hz => ?_⟩
      have := (hS k hk).1
      have := st.dom k hz
      have := st.size
      omega
    | succ i => exact ⟨Nat.lt_of_lt_of_le (h3 i k hk).1 h.size, (h3 i k hk).2⟩

theorem below_alloc (w : World) (o : Obj) : Below w.heap.size w (w.alloc o) := (Below.refl _ w).alloc (Nat.le_refl _) o

theorem St.alloc (st : St Z w0 w L) (t : TypeId) (cs : List Value) : St Z w0 (w.alloc (.cells cs.toArray t)) (Blk w.heap.size t cs :: L) :=
  st.cons (below_alloc w _) _ (fun k => k = w.heap.size) ⟨fun _ => Iff.rfl, heap_alloc_new w _⟩ (fun k hk => by subst hk; simp)
theorem St.allocO (st : St Z w0 w L) (o : Obj) : St Z w0 (w.alloc o) (Obk w.heap.size o :: L) :=
  st.cons (below_alloc w _) _ (fun k => k = w.heap.size) ⟨fun _ => Iff.rfl, heap_alloc_new w _⟩ (fun k hk => by subst hk; simp)

/-- The pieces in another order, some let go: by their places. -/
def pk (L : List Res) (is : List Nat) : List Res := is.filterMap (L[·]?)
theorem St.sel (is : List Nat) (hl : is.all (Nat.blt · L.length) = true) (hn : is.Nodup) (st : St Z w0 w L) : St Z w0 w (pk L is) := by
  obtain ⟨F, h1, h2, h3⟩ := st.sep
  refine ⟨st.os, st.tape, st.output, st.size, st.dom, st.old, fun j k => ∃ i, is[j]? = some i ∧ F i k, ?_, ?_, ?_⟩
  · have key : ∀ (is : List Nat), is.all (Nat.blt · L.length) = true → ∀ (j : Nat) (r : Res), (pk L is)[j]? = some r → ∃ i : Nat, is[j]? = some i ∧ L[i]? = some r := by
      intro is
      induction is with
      | nil => intro _ j r h; simp [pk] at h
      | cons i is ih =>
        intro hall j r h
        simp only [List.all_cons, Bool.and_eq_true] at hall
        have hi : i < L.length := by simpa [Nat.blt_eq] using hall.1
        have : pk L (i :: is) = L[i] :: pk L is := by simp [pk, List.filterMap_cons, List.getElem?_eq_getElem hi]
        rw [this] at h
        cases j with
        | zero => exact ⟨i, rfl, by simpa [List.getElem?_eq_getElem hi] using h⟩
        | succ j => exact ih hall.2 j r (by simpa using h)
    intro j r hr
    obtain ⟨i, hi, hL⟩ := key is hl j r hr
    have : (fun k => ∃ i, is[j]? = some i ∧ F i k) = F i := by
      funext k
      exact propext ⟨fun ⟨i', h', hf⟩ => by rw [hi] at h'; cases h'; exact hf, fun hf => ⟨i, hi, hf⟩⟩
    show r.P w (fun k => ∃ i, is[j]? = some i ∧ F i k)
    rw [this]
    exact h1 i r hL
  · rintro a b k hab ⟨i, hi, hf⟩ ⟨i', hi', hf'⟩
    refine h2 i i' k (fun e => hab ?_) hf hf'
    subst e
    have ha := (List.getElem?_eq_some_iff.1 hi)
    have hb := (List.getElem?_eq_some_iff.1 hi')
    obtain ⟨ha1, ha2⟩ := ha
    obtain ⟨hb1, hb2⟩ := hb
    have hp := List.pairwise_iff_getElem.1 hn
    rcases Nat.lt_trichotomy a b with h | h | h
    · exact absurd (ha2.trans hb2.symm) (hp a b ha1 hb1 h)
    · exact h
    · exact absurd (hb2.trans ha2.symm) (hp b a hb1 ha1 h)
  · rintro j k ⟨i, _, hf⟩
    exact h3 i k hf

/-- One piece turned, its blocks and new ones alone. -/
theorem St.focus (st : St Z w0 w L) {i : Nat} {r : Res} (hi : L[i]? = some r) : ∃ S, r.P w S ∧ (∀ k, S k → k < w.heap.size ∧ ¬ Z k) ∧
    ∀ (w' : World) (r' : Res) (S' : Nat → Prop), w'.os = w.os → w'.tape = w.tape → w'.output = w.output → w.heap.size ≤ w'.heap.size → (∀ k, k < w.heap.size → ¬ S k → w'.heap[k]? = w.heap[k]?) →
      r'.P w' S' → (∀ k, S' k → k < w'.heap.size ∧ (S k ∨ w.heap.size ≤ k)) → St Z w0 w' (L.set i r') := by
  obtain ⟨F, h1, h2, h3⟩ := st.sep
  have hlt : i < L.length := (List.getElem?_eq_some_iff.1 hi).1
  refine ⟨F i, h1 i r hi, fun k hk => h3 i k hk, ?_⟩
  intro w' r' S' ho ht hu hs hb hr hS
  refine ⟨ho.trans st.os, ht.trans st.tape, hu.trans st.output, Nat.le_trans st.size hs, st.dom, fun k hk => (hb k ?_ (fun hf => (h3 i k hf).2 hk)).trans (st.old k hk), fun j => if j = i then S' else F j, ?_, ?_, ?_⟩
  · have := st.dom k hk
    have := st.size
    omega
  · intro j q hq
    by_cases hj : j = i
    · subst hj
      rw [List.getElem?_set_self hlt] at hq
      cases hq
      simpa using hr
    · rw [List.getElem?_set_ne (Ne.symm hj)] at hq
      simp only [hj, if_false]
      exact q.loc (h1 j q hq) (fun k hk => hb k (h3 j k hk).1 (h2 j i k hj hk))
  · intro a b k hab ha hb'
    by_cases e1 : a = i
    · by_cases e2 : b = i
      · exact hab (e1.trans e2.symm)
      · simp only [e1, e2, if_true, if_false] at ha hb'
        rcases (hS k ha).2 with h | h
        · exact h2 i b k (Ne.symm e2) h hb'
        · have := (h3 b k hb').1; omega
    · by_cases e2 : b = i
      · simp only [e1, e2, if_true, if_false] at ha hb'
        rcases (hS k hb').2 with h | h
        · exact h2 i a k (Ne.symm e1) h ha
        · have := (h3 a k ha).1; omega
      · simp only [e1, e2, if_false] at ha hb'
        exact h2 a b k hab ha hb'
  · intro j k hk
    by_cases hj : j = i
    · simp only [hj, if_true] at hk
      refine ⟨(hS k hk).1, fun hz => ?_⟩
      rcases (hS k hk).2 with h | h
      · exact (h3 i k h).2 hz
      · have := st.dom k hz; have := st.size; omega
    · simp only [hj, if_false] at hk
      exact ⟨Nat.lt_of_lt_of_le (h3 j k hk).1 hs, (h3 j k hk).2⟩

theorem St.blk (st : St Z w0 w L) {i b : Nat} {t : TypeId} {cs : List Value} (hi : L[i]? = some (Blk b t cs)) : w.heap[b]? = some (.cells cs.toArray t (0, 0)) := by
  obtain ⟨S, h, _⟩ := st.focus hi
  exact h.2
theorem St.obk (st : St Z w0 w L) {i b : Nat} {o : Obj} (hi : L[i]? = some (Obk b o)) : w.heap[b]? = some o := by
  obtain ⟨S, h, _⟩ := st.focus hi
  exact h.2
theorem St.row (st : St Z w0 w L) {i e sz n : Nat} {v : Value} {cs : List Value} (hi : L[i]? = some (Row e sz v n cs)) : w.ownsRow 0 e sz v n cs := by
  obtain ⟨S, h, _⟩ := st.focus hi
  exact h.2
theorem St.fact (st : St Z w0 w L) {i : Nat} {p : Prop} (hi : L[i]? = some (Fact p)) : p := by
  obtain ⟨S, h, _⟩ := st.focus hi
  exact h.2

theorem setCell_heap (w : World) (b off : Nat) (v : Value) (t : TypeId) (cs : List Value) (h : w.heap[b]? = some (.cells cs.toArray t (0, 0))) :
    (w.setCell ⟨b, off, none⟩ v).heap[b]? = some (.cells (cs.set off v).toArray t (0, 0)) := by
  simp [World.setCell, Array.getElem?_modify, h]

theorem St.store (st : St Z w0 w L) {i b off : Nat} {t : TypeId} {cs : List Value} (hi : L[i]? = some (Blk b t cs)) (v : Value) : St Z w0 (w.setCell ⟨b, off, none⟩ v) (L.set i (Blk b t (cs.set off v))) := by
  obtain ⟨S, ⟨hS, hb⟩, hlt, H⟩ := st.focus hi
  refine H _ _ S rfl rfl rfl (by simp) (fun k hk hn => ?_) ⟨hS, setCell_heap w b off v t cs hb⟩ (fun k hk => ⟨by simpa using (hlt k hk).1, .inl hk⟩)
  exact heap_setCell_other w _ k v (fun e => hn ((hS k).2 e))

/-- What was frozen for a while is a piece again. -/
theorem St.freeze {r : Res} (st : St Z w0 w (r :: L)) : ∃ S, r.P w S ∧ St (fun k => Z k ∨ S k) w w L ∧ ∀ w' L', St (fun k => Z k ∨ S k) w w' L' → St Z w0 w' (r :: L') := by
  obtain ⟨F, h1, h2, h3⟩ := st.sep
  refine ⟨F 0, h1 0 r rfl, ⟨rfl, rfl, rfl, Nat.le_refl _, ?_, fun _ _ => rfl, fun i => F (i + 1), fun i r' h => h1 (i + 1) r' (by simpa using h), fun i j k hij => h2 _ _ k (by omega), ?_⟩, ?_⟩
  · rintro k (hk | hk)
    · have := st.dom k hk; have := st.size; omega
    · exact (h3 0 k hk).1
  · intro i k hk
    refine ⟨(h3 _ k hk).1, ?_⟩
    rintro (h | h)
    · exact (h3 _ k hk).2 h
    · exact h2 (i + 1) 0 k (by omega) hk h
  · intro w' L' st'
    obtain ⟨F', g1, g2, g3⟩ := st'.sep
    refine ⟨st'.os.trans st.os, st'.tape.trans st.tape, st'.output.trans st.output, Nat.le_trans st.size st'.size, st.dom, fun k hk => (st'.old k (.inl hk)).trans (st.old k hk), fun i => match i with | 0 => F 0 | i + 1 => F' i, ?_, ?_, ?_⟩
    · intro i q hq
      cases i with
      | zero => simp at hq; subst hq; exact r.loc (h1 0 r rfl) (fun k hk => st'.old k (.inr hk))
      | succ i => exact g1 i q (by simpa using hq)
    · intro i j k hij hi hj
      cases i with
      | zero =>
        cases j with
        | zero => exact hij rfl
        | succ j => exact (g3 j k hj).2 (.inr hi)
      | succ i =>
        cases j with
        | zero => exact (g3 i k hi).2 (.inr hj)
        | succ j => exact g2 i j k (fun e => hij (by rw [e])) hi hj
    · intro i k hk
      cases i with
      | zero => exact ⟨Nat.lt_of_lt_of_le (h3 0 k hk).1 st'.size, (h3 0 k hk).2⟩
      | succ i => exact ⟨(g3 i k hk).1, fun hz => (g3 i k hk).2 (.inl hz)⟩

/-- Less is frozen. -/
theorem St.thaw {Z' : Nat → Prop} (st : St Z w0 w L) (h : ∀ k, Z' k → Z k) : St Z' w0 w L :=
  let ⟨F, h1, h2, h3⟩ := st.sep
  ⟨st.os, st.tape, st.output, st.size, fun k hk => st.dom k (h k hk), fun k hk => st.old k (h k hk), F, h1, h2, fun i k hk => ⟨(h3 i k hk).1, fun hz => (h3 i k hk).2 (h k hz)⟩⟩

/-! cells in a row from an address on, in every world in which Z lies as it lies in w0 -/
def RowAt (w : World) (ad : Addr) (cs : List Value) : Prop := ∀ j u, cs[j]? = some u → w.cell? (ad.add j) = some u
def RowZ (Z : Nat → Prop) (w0 : World) (ad : Addr) (cs : List Value) : Prop := ∀ w' : World, (∀ k, Z k → w'.heap[k]? = w0.heap[k]?) → RowAt w' ad cs
theorem RowZ.at {ad : Addr} {cs : List Value} (h : RowZ Z w0 ad cs) (st : St Z w0 w L) : RowAt w ad cs := h w st.old
theorem RowZ.mono {Z' : Nat → Prop} {w1 : World} {ad : Addr} {cs : List Value} (h : RowZ Z w0 ad cs) (hz : ∀ k, Z k → Z' k) (hw : ∀ k, Z k → w1.heap[k]? = w0.heap[k]?) : RowZ Z' w1 ad cs :=
  fun w' h' => h w' (fun k hk => (h' k (hz k hk)).trans (hw k hk))
theorem RowAt.blk {b : Nat} {t : TypeId} {cs : List Value} {fr : Nat × Nat} (h : w.heap[b]? = some (.cells cs.toArray t fr)) : RowAt w ⟨b, 0, none⟩ cs := by
  intro j u hu
  rw [Addr.add_lit, Nat.zero_add, cell_of_row w b j cs.toArray t fr h]
  simpa using hu
end
end Go.Eng
namespace Go.Eng
open Go.RowKit

def aggB (P : Program) (t : TypeId) : Option Bool := (P.underlying t).map fun d => match d with | .struct _ => true | .array _ _ => true | _ => false
def sizeB (P : Program) (t : TypeId) : Option Nat := (P.info? t).map (·.size)
def zeroB (P : Program) (t : TypeId) : Option Value := (P.info? t).bind (·.zero)
def fieldB (P : Program) (s f : Nat) : Option Nat :=
  match P.underlying s with
  | some (.struct fs) => match fs[f]? with
    | some fd => match sizeB P fd.type with
      | some (_ + 1) => some fd.offset
      | _ => none
    | none => none
  | _ => none
def fieldT (P : Program) (s f : Nat) : Option (Nat × Nat) :=
  match P.underlying s with
  | some (.struct fs) => fs[f]?.map (fun fd => (fd.type, fd.offset))
  | _ => none

section
variable {P : Program} {w : World}

theorem run_typeInfo {t : TypeId} {i : TypeInfo} (h : P.info? t = some i) : (typeInfo t).run P w = .ok i w := by simp [typeInfo, h]
theorem run_sizeOf {t n : Nat} (h : sizeB P t = some n) : (sizeOf t).run P w = .ok n w := by
  obtain ⟨i, hi, rfl⟩ := Option.map_eq_some_iff.1 h
  simp [sizeOf, run_typeInfo hi]
theorem run_zeroValue {t : Nat} {v : Value} (h : zeroB P t = some v) : (zeroValue t).run P w = .ok v w := by
  obtain ⟨i, hi, hz⟩ := Option.bind_eq_some_iff.1 h
  simp [zeroValue, run_typeInfo hi, hz]
theorem run_isAgg {t : Nat} {b : Bool} (h : aggB P t = some b) : (isAgg t).run P w = .ok b w := by
  obtain ⟨d, hd, rfl⟩ := Option.map_eq_some_iff.1 h
  unfold isAgg
  simp only [Sem.run_bind, run_underlying hd, Result.andThen_ok]
  cases d <;> rfl
theorem run_loadVarS {t : Nat} {ad : Addr} {v : Value} (h : aggB P t = some false) (hc : w.cell? ad = some v) : (loadVar t ad).run P w = .ok v w := by
  simp [loadVar, run_isAgg h, hc]
theorem run_loadVarA {t n : Nat} {ad : Addr} {cs : List Value} (h : aggB P t = some true) (hs : sizeB P t = some n) (hr : RowAt w ad cs) (hl : cs.length = n) : (loadVar t ad).run P w = .ok (.agg cs.toArray) w := by
  subst hl
  simp [loadVar, run_isAgg h, run_sizeOf hs, run_loadCells_list w ad cs hr]
theorem RowAt.part {ad : Addr} {cs : List Value} (h : RowAt w ad cs) (k n : Nat) : RowAt w (ad.add k) ((cs.drop k).take n) := by
  intro j u hu
  rw [List.getElem?_take] at hu
  split at hu
  · rw [List.getElem?_drop] at hu
    have := h (k + j) u hu
    unfold Addr.add at *
    by_cases hk : k = 0
    · subst hk; simpa using this
    · by_cases hj : j = 0
      · subst hj; simpa [hk] using this
      · simp only [hk, hj, if_false]
        rw [if_neg (by omega)] at this
        rw [Nat.add_assoc]
        exact this
  · cases hu
theorem add_add (ad : Addr) (a b : Nat) : (ad.add a).add b = ad.add (a + b) := by
  unfold Addr.add
  by_cases ha : a = 0 <;> by_cases hb : b = 0 <;> simp [ha, hb, Nat.add_assoc]
end

section
variable {P : Program} {ρ : Env} {w : World} {K : Value → World → Prop} {d : Option Tmp} {ty : TypeId} {pos : String} {after : Array Edge} {gd : Option (Nat × Bool)}
variable {Z : Nat → Prop} {w0 : World} {L : List Res}

theorem St.cellB (st : St Z w0 w L) {i b off : Nat} {t : TypeId} {cs : List Value} {v : Value} (hi : L[i]? = some (Blk b t cs)) (hv : cs[off]? = some v) : w.cell? ⟨b, off, none⟩ = some v := by
  rw [cell_of_row w b off cs.toArray t (0, 0) (st.blk hi)]
  simpa using hv
theorem St.rowB (st : St Z w0 w L) {i b : Nat} {t : TypeId} {cs : List Value} (hi : L[i]? = some (Blk b t cs)) : RowAt w ⟨b, 0, none⟩ cs := RowAt.blk (st.blk hi)
theorem RowZ.cell {ad : Addr} {cs : List Value} (h : RowZ Z w0 ad cs) (st : St Z w0 w L) {j : Nat} {v : Value} (hv : cs[j]? = some v) : w.cell? (ad.add j) = some v := h.at st j v hv

theorem OpT.move {x : Operand} (v : Value) (hv : evO ρ x = v) (hK : K v w) : OpT P ⟨d, .move x, ty, pos, after, gd⟩ ρ w K :=
  OpT.val (v := v) (by show Sem.run P (pure (Next.value (evO ρ x))) w = _; rw [hv]; rfl) hK
theorem OpT.assign {x : Operand} (v : Value) (hv : evO ρ x = v) (hK : K v w) : OpT P ⟨d, .assign x, ty, pos, after, gd⟩ ρ w K :=
  OpT.val (v := v) (by show Sem.run P (pure (Next.value (evO ρ x))) w = _; rw [hv]; rfl) hK
theorem OpT.pickT {c a b : Operand} (v : Value) (hc : evO ρ c = .bool true) (hv : evO ρ a = v) (hK : K v w) : OpT P ⟨d, .pick c a b, ty, pos, after, gd⟩ ρ w K :=
  OpT.val (v := v) (by simp [execOp, hc, asBool, hv]) hK
theorem OpT.pickF {c a b : Operand} (v : Value) (hc : evO ρ c = .bool false) (hv : evO ρ b = v) (hK : K v w) : OpT P ⟨d, .pick c a b, ty, pos, after, gd⟩ ρ w K :=
  OpT.val (v := v) (by simp [execOp, hc, asBool, hv]) hK
theorem OpT.box {e : TypeId} {x : Operand} (st : St Z w0 w L) (v : Value) (cs : List Value) (hv : evO ρ x = v) (hcs : v.cells.toList = cs) (hK : ∀ b w', St Z w0 w' (Blk b e cs :: L) → K (.pointer (some ⟨b, 0, none⟩)) w') : OpT P ⟨d, .box e x, ty, pos, after, gd⟩ ρ w K := by
  subst hcs
  have hst := st.alloc e v.cells.toList
  exact OpT.val (v := .pointer (some ⟨w.heap.size, 0, none⟩)) (w' := w.alloc (.cells v.cells.toList.toArray e)) (by simp [execOp, Instr.box, newVar, newRow, hv]) (hK _ _ hst)
theorem OpT.alloc {e : TypeId} (st : St Z w0 w L) (z : Value) (cs : List Value) (hz : zeroB P e = some z) (hcs : z.cells.toList = cs) (hK : ∀ b w', St Z w0 w' (Blk b e cs :: L) → K (.pointer (some ⟨b, 0, none⟩)) w') : OpT P ⟨d, .alloc e, ty, pos, after, gd⟩ ρ w K := by
  subst hcs
  have hst := st.alloc e z.cells.toList
  exact OpT.val (v := .pointer (some ⟨w.heap.size, 0, none⟩)) (w' := w.alloc (.cells z.cells.toList.toArray e)) (by simp [execOp, Instr.alloc, newVar, newRow, run_zeroValue hz]) (hK _ _ hst)
theorem OpT.loadS {t : TypeId} {x : Operand} (ad : Addr) (v : Value) (h : aggB P t = some false) (hx : evO ρ x = .pointer (some ad)) (hc : w.cell? ad = some v) (hK : K v w) : OpT P ⟨d, .load t x, ty, pos, after, gd⟩ ρ w K :=
  OpT.val (v := v) (by simp [execOp, Instr.loadAt, Instr.sureAddr, hx, run_loadVarS h hc]) hK
theorem OpT.loadA {t : TypeId} {x : Operand} (ad : Addr) (n : Nat) (cs : List Value) (h : aggB P t = some true) (hs : sizeB P t = some n) (hx : evO ρ x = .pointer (some ad)) (hr : RowAt w ad cs) (hl : cs.length = n) (hK : K (.agg cs.toArray) w) : OpT P ⟨d, .load t x, ty, pos, after, gd⟩ ρ w K :=
  OpT.val (v := .agg cs.toArray) (by simp [execOp, Instr.loadAt, Instr.sureAddr, hx, run_loadVarA h hs hr hl]) hK

def splice (cs : List Value) (o : Nat) (vs : List Value) : List Value := cs.take o ++ vs ++ cs.drop (o + vs.length)
theorem splice_cons (cs : List Value) (o : Nat) (v : Value) (vs : List Value) (h : o < cs.length) : splice (cs.set o v) (o + 1) vs = splice cs o (v :: vs) := by
  unfold splice
  have h1 : (cs.set o v).take (o + 1) = cs.take o ++ [v] := by
    rw [List.take_set, List.take_succ_eq_append_getElem h, List.set_append_right _ _ (by simp; omega)]
    simp [Nat.min_eq_left (Nat.le_of_lt h)]
  have h2 : (cs.set o v).drop (o + 1 + vs.length) = cs.drop (o + (v :: vs).length) := by
    rw [List.drop_set, if_pos (by omega)]
    congr 1
    simp; omega
  rw [h1, h2]; simp
theorem splice_nil (cs : List Value) (o : Nat) : splice cs o [] = cs := by simp [splice]

theorem run_store1 (st : St Z w0 w L) {i b off : Nat} {t : TypeId} {cs : List Value} (hi : L[i]? = some (Blk b t cs)) (v : Value) (h1 : v.oneCell' = true) (ho : off < cs.length) :
    (store ⟨b, off, none⟩ v).run P w = .ok () (w.setCell ⟨b, off, none⟩ v) := by
  have hc : w.cell? ⟨b, off, none⟩ = some cs[off] := st.cellB hi (List.getElem?_eq_getElem ho)
  have hf : w.frozen? ⟨b, off, none⟩ = false := frozen_of_row w b off cs.toArray t (st.blk hi)
  rw [run_store P w _ v .plain h1]
  simp [hc, hf]
theorem run_storeCells {t : TypeId} {b : Nat} {k : Nat} : ∀ (vs : List Value) (w : World) (L : List Res) (o j : Nat) (cs : List Value), St Z w0 w L → L[k]? = some (Blk b t cs) → (∀ v ∈ vs, v.oneCell' = true) → o + j + vs.length ≤ cs.length →
    ∃ w', (storeCells ⟨b, o, none⟩ vs j).run P w = .ok () w' ∧ St Z w0 w' (L.set k (Blk b t (splice cs (o + j) vs)))
  | [], w, L, o, j, cs, st, hk, _, _ => ⟨w, rfl, by
      rw [splice_nil]
      have hlt : k < L.length := (List.getElem?_eq_some_iff.1 hk).1
      have : L.set k (Blk b t cs) = L := by
        rw [List.getElem?_eq_getElem hlt] at hk
        rw [← Option.some.inj hk]
        exact List.set_getElem_self hlt
      rw [this]; exact st⟩
  | v :: vs, w, L, o, j, cs, st, hk, h1, hl => by
    have hlt : k < L.length := (List.getElem?_eq_some_iff.1 hk).1
    have hoj : o + j < cs.length := by simp at hl; omega
    have hr := run_store1 (P := P) st hk v (h1 v (by simp)) hoj
    have st' := st.store (off := o + j) hk v
    obtain ⟨w', hw, hst⟩ := run_storeCells vs _ _ o (j + 1) (cs.set (o + j) v) st' (List.getElem?_set_self hlt) (fun u hu => h1 u (by simp [hu])) (by simp at hl ⊢; omega)
    refine ⟨w', ?_, ?_⟩
    · rw [storeCells]
      simp only [Addr.add_lit, Sem.run_bind, hr, Result.andThen_ok]
      exact hw
    · rw [List.set_set, show o + (j + 1) = o + j + 1 from by omega, splice_cons _ _ _ _ hoj] at hst
      exact hst

theorem OpT.storeS {t tb : TypeId} {a x : Operand} (st : St Z w0 w L) {b off : Nat} {cs : List Value} (i : Nat) (v : Value) (hi : L[i]? = some (Blk b tb cs)) (hs : sizeB P t = some 1) (ha : evO ρ a = .pointer (some ⟨b, off, none⟩)) (hx : evO ρ x = v) (h1 : v.oneCell' = true) (hcs : v.cells = #[v]) (ho : Nat.blt off cs.length = true)
    (hK : ∀ w', St Z w0 w' (L.set i (Blk b tb (cs.set off v))) → K undef w') : OpT P ⟨d, .store t a x, ty, pos, after, gd⟩ ρ w K := by
  have hr := run_store1 (P := P) st hi v h1 (by simpa [Nat.blt_eq] using ho)
  refine OpT.skp (w' := w.setCell ⟨b, off, none⟩ v) ?_ (hK _ (st.store hi v))
  simp only [execOp, Instr.storeAt, Instr.sureAddr, ha, hx, storeVar, Sem.run_bind, Sem.run_pure, Result.andThen_ok, run_sizeOf hs, hcs]
  simp [storeCells, Addr.add_zero', hr]
theorem OpT.storeA {t tb : TypeId} {a x : Operand} (st : St Z w0 w L) {b off : Nat} {cs : List Value} (i n : Nat) (vs : List Value) (hi : L[i]? = some (Blk b tb cs)) (hs : sizeB P t = some n) (ha : evO ρ a = .pointer (some ⟨b, off, none⟩)) (hx : evO ρ x = .agg vs.toArray) (h1 : vs.all Value.oneCell' = true) (hl : vs.length = n) (ho : Nat.ble (off + vs.length) cs.length = true)
    (hK : ∀ w', St Z w0 w' (L.set i (Blk b tb (splice cs off vs))) → K undef w') : OpT P ⟨d, .store t a x, ty, pos, after, gd⟩ ρ w K := by
  subst hl
  obtain ⟨w', hr, hst⟩ := run_storeCells (P := P) vs w L off 0 cs st hi (by simpa using h1) (by simpa [Nat.ble_eq] using ho)
  refine OpT.skp (w' := w') ?_ (hK _ hst)
  simp only [execOp, Instr.storeAt, Instr.sureAddr, ha, hx, storeVar, Sem.run_bind, Sem.run_pure, Result.andThen_ok, run_sizeOf hs, Value.cells]
  simp [hr]
theorem run_fieldAt {s f off : Nat} {ad : Addr} (h : fieldB P s f = some off) : (Instr.fieldAt s (.pointer (some ad)) f).run P w = .ok (.pointer (some (ad.add off))) w := by
  unfold fieldB at h
  split at h
  · rename_i fs hs
    split at h
    · rename_i fd hf
      split at h
      · rename_i m hm
        cases h
        unfold Instr.fieldAt
        simp only [Sem.run_bind, run_underlying hs, Result.andThen_ok, hf, Instr.sureAddr, Sem.run_pure, fieldPlace, run_sizeOf hm]
        simp
      · cases h
    · cases h
  · cases h
theorem OpT.field {s f : Nat} {x : Operand} (off : Nat) (ad p : Addr) (h : fieldB P s f = some off) (hx : evO ρ x = .pointer (some ad)) (hp : ad.add off = p) (hK : K (.pointer (some p)) w) : OpT P ⟨d, .fieldAddr s x f, ty, pos, after, gd⟩ ρ w K := by
  subst hp
  exact OpT.val (v := .pointer (some (ad.add off))) (by simp only [execOp, hx, Sem.run_bind, run_fieldAt h, Result.andThen_ok, Sem.run_pure]) hK
theorem OpT.idx {t e : Nat} {x ix : Operand} (sz : Nat) (ad p : Addr) (n c : Nat) (kd : IntKind) (i : Int) (hu : P.underlying t = some (.slice e)) (hs : sizeB P e = some sz) (hx : evO ρ x = .slice (some ad) n c) (hi : evO ρ ix = .int kd i) (h0 : 0 ≤ i) (hlt : i < n) (hp : ad.add (i.toNat * sz) = p)
    (hK : K (.pointer (some p)) w) : OpT P ⟨d, .indexAddr t x ix, ty, pos, after, gd⟩ ρ w K := by
  subst hp
  exact OpT.val (v := .pointer (some (ad.add (i.toNat * sz)))) (by simp [execOp, hx, hi, Instr.indexAt, asIntOf, run_underlying hu, h0, hlt, run_sizeOf hs]) hK
theorem OpT.lenS {t e : Nat} {x : Operand} {tys : Array TypeId} (A : Option Addr) (n c : Nat) (ht : tys[0]? = some t) (hu : P.underlying t = some (.slice e)) (hx : evO ρ x = .slice A n c) (hK : K (.int .i64 n) w) :
    OpT P ⟨d, .call ⟨.builtin .len, #[x], tys⟩, ty, pos, after, gd⟩ ρ w K :=
  OpT.val (v := .int .i64 n) (by simp [execOp, resolve, invoke, builtin, Builtin.len_, hx, ht, run_underlying hu, goInt]) hK
theorem OpT.lenStr {t : Nat} {x : Operand} {tys : Array TypeId} (s : ByteArray) (ht : tys[0]? = some t) (hu : P.underlying t = some .string) (hx : evO ρ x = .string s) (hK : K (.int .i64 s.size) w) :
    OpT P ⟨d, .call ⟨.builtin .len, #[x], tys⟩, ty, pos, after, gd⟩ ρ w K :=
  OpT.val (v := .int .i64 s.size) (by simp [execOp, resolve, invoke, builtin, Builtin.len_, hx, ht, run_underlying hu, goInt]) hK
theorem OpT.extract {x : Operand} {i : Nat} (vs : List Value) (v : Value) (hx : evO ρ x = .tuple vs.toArray) (hv : vs[i]? = some v) (hK : K v w) : OpT P ⟨d, .extract x i, ty, pos, after, gd⟩ ρ w K :=
  OpT.val (v := v) (by simp [execOp, Instr.extract, hx, hv]) hK
theorem OpT.not {t : TypeId} {x : Operand} (b : Bool) (hx : evO ρ x = .bool b) (hK : K (.bool (!b)) w) : OpT P ⟨d, .unOp .not t x, ty, pos, after, gd⟩ ρ w K :=
  OpT.val (v := .bool (!b)) (by simp [execOp, Op.unary, hx]) hK
theorem OpT.makeFunc {fn : Fn} {fi ca : Array Operand} (f1 c1 : List Value) (h1 : fi.map (evO ρ) = f1.toArray) (h2 : ca.map (evO ρ) = c1.toArray) (hK : K (.func fn f1.toArray c1.toArray) w) : OpT P ⟨d, .makeFunc fn fi ca, ty, pos, after, gd⟩ ρ w K :=
  OpT.val (v := .func fn f1.toArray c1.toArray) (by simp [execOp, Instr.makeFunc, h1, h2]) hK
theorem OpT.makeIface {t : TypeId} {x : Operand} (v : Value) (hb : (match P.underlying t with | some (.interface _) => false | some _ => true | none => false) = true) (hx : evO ρ x = v) (hK : K (.iface t v) w) : OpT P ⟨d, .makeInterface t x, ty, pos, after, gd⟩ ρ w K := by
  refine OpT.val (v := .iface t v) ?_ hK
  split at hb
  · cases hb
  · rename_i dd hne hd
    simp only [execOp, Instr.makeInterface, hx, Sem.run_bind, run_underlying hd, Result.andThen_ok]
    cases dd <;> first | rfl | exact absurd rfl (hne _)
  · cases hb
theorem OpT.nilc {x : Operand} (ad : Addr) (hx : evO ρ x = .pointer (some ad)) (hK : K (.pointer (some ad)) w) : OpT P ⟨d, .nilCheck x, ty, pos, after, gd⟩ ρ w K :=
  OpT.val (v := .pointer (some ad)) (by simp [execOp, hx]) hK

/-! two operands -/
variable {t : TypeId} {x y : Operand} {yt : TypeId}
theorem OpT.ilt (k : IntKind) (a b : Int) (hx : evO ρ x = .int k a) (hy : evO ρ y = .int k b) (hK : K (.bool (decide (a < b))) w) : OpT P ⟨d, .binOp .lss t x y yt, ty, pos, after, gd⟩ ρ w K :=
  OpT.val (v := .bool (decide (a < b))) (by simp only [execOp, hx, hy]; simp [eqGuard_at_int, binOp_lss]) hK
theorem OpT.ile (k : IntKind) (a b : Int) (hx : evO ρ x = .int k a) (hy : evO ρ y = .int k b) (hK : K (.bool (decide (a ≤ b))) w) : OpT P ⟨d, .binOp .leq t x y yt, ty, pos, after, gd⟩ ρ w K :=
  OpT.val (v := .bool (decide (a ≤ b))) (by simp only [execOp, hx, hy]; simp [eqGuard_at_int, binOp_leq]) hK
theorem OpT.igt (k : IntKind) (a b : Int) (hx : evO ρ x = .int k a) (hy : evO ρ y = .int k b) (hK : K (.bool (decide (b < a))) w) : OpT P ⟨d, .binOp .gtr t x y yt, ty, pos, after, gd⟩ ρ w K :=
  OpT.val (v := .bool (decide (b < a))) (by simp only [execOp, hx, hy]; simp [eqGuard_at_int, binOp_gtr]) hK
theorem OpT.ige (k : IntKind) (a b : Int) (hx : evO ρ x = .int k a) (hy : evO ρ y = .int k b) (hK : K (.bool (decide (b ≤ a))) w) : OpT P ⟨d, .binOp .geq t x y yt, ty, pos, after, gd⟩ ρ w K :=
  OpT.val (v := .bool (decide (b ≤ a))) (by simp only [execOp, hx, hy]; simp [eqGuard_at_int, binOp_geq]) hK
theorem OpT.ieq (k : IntKind) (a b : Int) (hx : evO ρ x = .int k a) (hy : evO ρ y = .int k b) (hK : K (.bool (decide (a = b))) w) : OpT P ⟨d, .binOp .eql t x y yt, ty, pos, after, gd⟩ ρ w K :=
  OpT.val (v := .bool (decide (a = b))) (by simp only [execOp, hx, hy]; simp [eqGuard_at_int, binOp_eql]; rw [Bool.eq_iff_iff]; simp) hK
theorem OpT.ine (k : IntKind) (a b : Int) (hx : evO ρ x = .int k a) (hy : evO ρ y = .int k b) (hK : K (.bool (decide (a ≠ b))) w) : OpT P ⟨d, .binOp .neq t x y yt, ty, pos, after, gd⟩ ρ w K :=
  OpT.val (v := .bool (decide (a ≠ b))) (by simp only [execOp, hx, hy]; simp [eqGuard_at_int, binOp_neq]; rw [Bool.eq_iff_iff]; simp) hK
theorem OpT.iadd (k : IntKind) (a b c : Int) (hx : evO ρ x = .int k a) (hy : evO ρ y = .int k b) (hc : k.wrap (a + b) = c) (hK : K (.int k c) w) : OpT P ⟨d, .binOp .add t x y yt, ty, pos, after, gd⟩ ρ w K := by
  subst hc
  exact OpT.val (v := .int k (k.wrap (a + b))) (by simp only [execOp, hx, hy]; simp [eqGuard_add, binOp_add, Op.intArith]) hK
theorem OpT.isub (k : IntKind) (a b c : Int) (hx : evO ρ x = .int k a) (hy : evO ρ y = .int k b) (hc : k.wrap (a - b) = c) (hK : K (.int k c) w) : OpT P ⟨d, .binOp .sub t x y yt, ty, pos, after, gd⟩ ρ w K := by
  subst hc
  exact OpT.val (v := .int k (k.wrap (a - b))) (by simp only [execOp, hx, hy]; simp [eqGuard_sub, binOp_sub, Op.intArith]) hK
theorem toList_eq_iff (a b : ByteArray) : (a.toList == b.toList) = decide (a = b) := by
  rw [Bool.eq_iff_iff]
  simp only [beq_iff_eq, decide_eq_true_eq]
  constructor
  · intro h
    have h1 : a.data.toList = b.data.toList := by
      rw [ByteArray.toList_eq, ByteArray.toList_eq] at h; exact h
    cases a; cases b
    simp only [ByteArray.mk.injEq]
    exact Array.toList_inj.1 h1
  · rintro rfl; rfl
theorem OpT.seq (a b : ByteArray) (hx : evO ρ x = .string a) (hy : evO ρ y = .string b) (hK : K (.bool (decide (a = b))) w) : OpT P ⟨d, .binOp .eql t x y yt, ty, pos, after, gd⟩ ρ w K :=
  OpT.val (v := .bool (decide (a = b))) (by simp only [execOp, hx, hy]; rw [← toList_eq_iff]; simp [eqGuard_at_string, binOp, Op.stringOp]) hK
theorem OpT.sne (a b : ByteArray) (hx : evO ρ x = .string a) (hy : evO ρ y = .string b) (hK : K (.bool (decide (a ≠ b))) w) : OpT P ⟨d, .binOp .neq t x y yt, ty, pos, after, gd⟩ ρ w K :=
  OpT.val (v := .bool (decide (a ≠ b))) (by simp only [execOp, hx, hy]; rw [show decide (a ≠ b) = !(decide (a = b)) from by simp, ← toList_eq_iff]; simp [eqGuard_at_string, binOp, Op.stringOp]) hK
theorem OpT.slt (a b : ByteArray) (hx : evO ρ x = .string a) (hy : evO ρ y = .string b) (hK : K (.bool (Op.bytesLess a.toList b.toList)) w) : OpT P ⟨d, .binOp .lss t x y yt, ty, pos, after, gd⟩ ρ w K :=
  OpT.val (v := .bool (Op.bytesLess a.toList b.toList)) (by simp only [execOp, hx, hy]; simp [eqGuard_at_string, binOp, Op.stringOp]) hK
theorem OpT.sge (a b : ByteArray) (hx : evO ρ x = .string a) (hy : evO ρ y = .string b) (hK : K (.bool (!Op.bytesLess a.toList b.toList)) w) : OpT P ⟨d, .binOp .geq t x y yt, ty, pos, after, gd⟩ ρ w K :=
  OpT.val (v := .bool (!Op.bytesLess a.toList b.toList)) (by simp only [execOp, hx, hy]; simp [eqGuard_at_string, binOp, Op.stringOp]) hK

/-! calls -/
theorem OpT.call {f : Operand} {axs : Array Operand} {tys : Array TypeId} (k : Nat) (first cap args : List Value) (fn : Func) (hf : P.funcs[k]? = some fn) (hb : fn.body.isSome = true) (hg : fn.name ≠ "runtime.NumGoroutine") (hx : evO ρ f = .func (.func k) first.toArray cap.toArray)
    (ha : first ++ (axs.toList.map (evO ρ)) ++ cap = args)
    (hc : Calls P k args.toArray w (fun e w' => ∃ v, e = .returned v ∧ K v w')) : OpT P ⟨d, .call ⟨.value f, axs, tys⟩, ty, pos, after, gd⟩ ρ w K := by
  subst ha
  refine OpT.ent (f := k) (args := (first ++ (axs.toList.map (evO ρ)) ++ cap).toArray) ?_ hc
  have hn : fn.body.isNone = false := by simp [Option.isNone_eq_false_iff, hb]
  have hg' : (fn.name == "runtime.NumGoroutine") = false := by simpa using hg
  have e1 : first.toArray ++ Array.map (evO ρ) axs ++ cap.toArray = (first ++ (axs.toList.map (evO ρ)) ++ cap).toArray := by
    apply Array.toList_inj.1; simp
  simp only [execOp, resolve, Deferred.ofValue, hx, Sem.run_bind, Sem.run_pure, Result.andThen_ok, invoke, callFunc, run_program, hf, hg', hn, e1]
  rfl
end
end Go.Eng
namespace Go.Eng
open Go.RowKit

/-- How cells in a row read as data, over what is frozen. -/
structure Rl (α : Type) where
  sz : Nat
  R : (Nat → Prop) → World → List Value → α → Prop
  len : ∀ {Z w cs x}, R Z w cs x → cs.length = sz
  mono : ∀ {Z Z' : Nat → Prop} {w w' : World} {cs x}, R Z w cs x → (∀ k, Z k → Z' k) → (∀ k, Z k → w'.heap[k]? = w.heap[k]?) → R Z' w' cs x

def slLen : Nat := 140737488355328

/-- A slice value reads as a list. -/
def Rl.sl {α : Type} (r : Rl α) (Z : Nat → Prop) (w : World) (v : Value) (xs : List α) : Prop :=
  ∃ A c, v = .slice A xs.length c ∧ xs.length ≤ 140737488355328 ∧ ∀ (i : Nat) (x : α), xs[i]? = some x → ∃ ad cs, A = some ad ∧ RowZ Z w (ad.add (i * r.sz)) cs ∧ r.R Z w cs x
theorem Rl.sl_mono {α : Type} {r : Rl α} {Z Z' : Nat → Prop} {w w' : World} {v : Value} {xs : List α} (h : r.sl Z w v xs) (hz : ∀ k, Z k → Z' k) (hw : ∀ k, Z k → w'.heap[k]? = w.heap[k]?) : r.sl Z' w' v xs := by
  obtain ⟨A, c, h1, h2, h3⟩ := h
  refine ⟨A, c, h1, h2, fun i x hx => ?_⟩
  obtain ⟨ad, cs, e, hr, hR⟩ := h3 i x hx
  exact ⟨ad, cs, e, hr.mono hz hw, r.mono hR hz hw⟩
theorem Rl.sl_le {α : Type} {r : Rl α} {Z : Nat → Prop} {w : World} {v : Value} {xs : List α} (h : r.sl Z w v xs) : xs.length ≤ 140737488355328 := by
  obtain ⟨_, _, _, h2, _⟩ := h
  exact h2
theorem Rl.sl_one {α : Type} {r : Rl α} {Z : Nat → Prop} {w : World} {v : Value} {xs : List α} (h : r.sl Z w v xs) : v.oneCell' = true := by
  obtain ⟨_, _, rfl, _⟩ := h
  rfl
theorem Rl.sl_cells {α : Type} {r : Rl α} {Z : Nat → Prop} {w : World} {v : Value} {xs : List α} (h : r.sl Z w v xs) : v.cells = #[v] := by
  obtain ⟨_, _, rfl, _⟩ := h
  rfl
theorem Rl.sl_nil {α : Type} (r : Rl α) (Z : Nat → Prop) (w : World) (A : Option Addr) (c : Nat) : r.sl Z w (.slice A 0 c) [] := ⟨A, c, rfl, by simp, fun i x h => by simp at h⟩

/-- One cell by an encoding. -/
def Rl.enc {α : Type} (f : α → Value) : Rl α where
  sz := 1
  R _ _ cs x := cs = [f x]
  len h := by rw [h]; rfl
  mono h _ _ := h
abbrev Rl.str : Rl ByteArray := Rl.enc Value.string
abbrev Rl.int (k : IntKind) : Rl Int := Rl.enc (Value.int k)
abbrev Rl.bool : Rl Bool := Rl.enc Value.bool
/-- One cell that is a slice. -/
def Rl.list {α : Type} (r : Rl α) : Rl (List α) where
  sz := 1
  R Z w cs x := ∃ v, cs = [v] ∧ r.sl Z w v x
  len := by rintro _ _ _ _ ⟨v, rfl, _⟩; rfl
  mono := by rintro _ _ _ _ _ _ ⟨v, rfl, h⟩ hz hw; exact ⟨v, rfl, Rl.sl_mono h hz hw⟩

/-- A piece: the value reads so within its own blocks. -/
def Imm {α : Type} (r : Rl α) (v : Value) (xs : List α) : Res where
  P w S := r.sl S w v xs
  loc h hs := Rl.sl_mono h (fun _ h => h) hs

structure CallOk (P : Program) (k : Nat) : Prop where
  ok : ∃ fn, P.funcs[k]? = some fn ∧ fn.body.isSome = true ∧ fn.name ≠ "runtime.NumGoroutine"

def Ret (Post : Value → World → Prop) : Ending → World → Prop := fun e w' => ∃ v, e = .returned v ∧ Post v w'

section
variable {P : Program} {ρ : Env} {w : World} {K : Value → World → Prop} {d : Option Tmp} {ty : TypeId} {pos : String} {after : Array Edge} {gd : Option (Nat × Bool)}
variable {Z : Nat → Prop} {w0 : World} {L : List Res}

theorem OpT.callS {f : Operand} {axs : Array Operand} {tys : Array TypeId} {k : Nat} {Post : Value → World → Prop} (ok : CallOk P k) (first cap args : List Value) (hx : evO ρ f = .func (.func k) first.toArray cap.toArray)
    (ha : first ++ (axs.toList.map (evO ρ)) ++ cap = args) (hc : Calls P k args.toArray w (Ret Post)) (hK : ∀ v w', Post v w' → K v w') : OpT P ⟨d, .call ⟨.value f, axs, tys⟩, ty, pos, after, gd⟩ ρ w K := by
  obtain ⟨fn, h1, h2, h3⟩ := ok.ok
  refine OpT.call k first cap args fn h1 h2 h3 hx ha (hc.mono ?_)
  rintro e w' ⟨v, rfl, hp⟩
  exact ⟨v, rfl, hK v w' hp⟩

theorem Rl.sl_get {α : Type} {r : Rl α} {A : Option Addr} {n c : Nat} {xs : List α} (h : r.sl Z w0 (.slice A n c) xs) (i : Nat) (hi : i < xs.length) : ∃ ad cs, A = some ad ∧ RowZ Z w0 (ad.add (i * r.sz)) cs ∧ r.R Z w0 cs xs[i] := by
  obtain ⟨A', c', hv, _, hg⟩ := h
  cases hv
  exact hg i _ (List.getElem?_eq_getElem hi)

theorem OpT.idxR {α : Type} {r : Rl α} {t e : Nat} {x ix : Operand} {v : Value} {xs : List α} (hu : P.underlying t = some (.slice e)) (hs : sizeB P e = some r.sz) (h : r.sl Z w0 v xs) (hx : evO ρ x = v) (kd : IntKind) (i : Nat) (hi : evO ρ ix = .int kd i) (hlt : i < xs.length)
    (hK : ∀ ad cs, RowZ Z w0 ad cs → r.R Z w0 cs xs[i] → K (.pointer (some ad)) w) : OpT P ⟨d, .indexAddr t x ix, ty, pos, after, gd⟩ ρ w K := by
  obtain ⟨A, c, rfl, hn, hg⟩ := h
  obtain ⟨ad, cs, rfl, hr, hR⟩ := hg i _ (List.getElem?_eq_getElem hlt)
  exact OpT.idx r.sz ad _ xs.length c kd i hu hs hx hi (by omega) (by omega) (by rw [Int.toNat_natCast]) (hK _ _ hr hR)
theorem OpT.lenR {α : Type} {r : Rl α} {t e : Nat} {x : Operand} {tys : Array TypeId} {v : Value} {xs : List α} (ht : tys[0]? = some t) (hu : P.underlying t = some (.slice e)) (h : r.sl Z w0 v xs) (hx : evO ρ x = v) (hK : K (.int .i64 xs.length) w) :
    OpT P ⟨d, .call ⟨.builtin .len, #[x], tys⟩, ty, pos, after, gd⟩ ρ w K := by
  obtain ⟨A, c, rfl, hn, hg⟩ := h
  exact OpT.lenS A xs.length c ht hu hx hK

/-- Pieces of the head chosen, the tail kept. -/
theorem St.selT (A : List Res) (is : List Nat) (hl : is.all (Nat.blt · A.length) = true) (hn : is.Nodup) (st : St Z w0 w (A ++ L)) : St Z w0 w (pk A is ++ L) := by
  obtain ⟨F, h1, h2, h3⟩ := st.sep
  have hsl : (pk A is).length = is.length := by
    clear hn
    induction is with
    | nil => rfl
    | cons i is ih =>
      simp only [List.all_cons, Bool.and_eq_true] at hl
      have hi : i < A.length := by simpa [Nat.blt_eq] using hl.1
      have e1 : pk A (i :: is) = A[i] :: pk A is := by simp [pk, List.getElem?_eq_getElem hi]
      rw [e1, List.length_cons, List.length_cons, ih hl.2]
  have hget : ∀ (j : Nat) (r : Res), (pk A is)[j]? = some r → ∃ i : Nat, is[j]? = some i ∧ A[i]? = some r := by
    clear hn hsl
    induction is with
    | nil => intro j r h; simp [pk] at h
    | cons i is ih =>
      intro j r h
      simp only [List.all_cons, Bool.and_eq_true] at hl
      have hi : i < A.length := by simpa [Nat.blt_eq] using hl.1
      have e1 : pk A (i :: is) = A[i] :: pk A is := by simp [pk, List.getElem?_eq_getElem hi]
      rw [e1] at h
      cases j with
      | zero => exact ⟨i, rfl, by simpa [List.getElem?_eq_getElem hi] using h⟩
      | succ j => exact ih hl.2 j r (by simpa using h)
  have hmem : ∀ j i : Nat, is[j]? = some i → i < A.length := fun j i h => by
    have := List.all_eq_true.1 hl i (List.mem_of_getElem? h)
    simpa [Nat.blt_eq] using this
  have hinj : ∀ a b i : Nat, is[a]? = some i → is[b]? = some i → a = b := by
    intro a b i ha hb
    obtain ⟨ha1, ha2⟩ := List.getElem?_eq_some_iff.1 ha
    obtain ⟨hb1, hb2⟩ := List.getElem?_eq_some_iff.1 hb
    have hp := List.pairwise_iff_getElem.1 hn
    rcases Nat.lt_trichotomy a b with h | h | h
    · exact absurd (ha2.trans hb2.symm) (hp a b ha1 hb1 h)
    · exact h
    · exact absurd (hb2.trans ha2.symm) (hp b a hb1 ha1 h)
  let g : Nat → Option Nat := fun j => if j < is.length then is[j]? else some (j - is.length + A.length)
  have ginj : ∀ a b i, g a = some i → g b = some i → a = b := by
    intro a b i ha hb
    simp only [g] at ha hb
    split at ha <;> split at hb
    · exact hinj a b i ha hb
    · have := hmem a i ha; simp at hb; omega
    · have := hmem b i hb; simp at ha; omega
    · simp at ha hb; omega
  refine ⟨st.os, st.tape, st.output, st.size, st.dom, st.old, fun j k => ∃ i, g j = some i ∧ F i k, ?_, ?_, ?_⟩
  · intro j r hr
    have : ∃ i : Nat, g j = some i ∧ (A ++ L)[i]? = some r := by
      rw [List.getElem?_append] at hr
      split at hr
      · rename_i hj
        obtain ⟨i, hi, hA⟩ := hget j r hr
        exact ⟨i, by simp only [g]; rw [if_pos (by omega)]; exact hi, by rw [List.getElem?_append_left (hmem j i hi)]; exact hA⟩
      · rename_i hj
        refine ⟨j - is.length + A.length, by simp only [g]; rw [if_neg (by omega)], ?_⟩
        rw [List.getElem?_append_right (by omega), ← hr]
        congr 1; omega
    obtain ⟨i, hi, hr⟩ := this
    have e : (fun k => ∃ i, g j = some i ∧ F i k) = F i := by
      funext k
      exact propext ⟨fun ⟨i', h', hf⟩ => by rw [hi] at h'; cases h'; exact hf, fun hf => ⟨i, hi, hf⟩⟩
    show r.P w (fun k => ∃ i, g j = some i ∧ F i k)
    rw [e]
    exact h1 i r hr
  · rintro a b k hab ⟨i, hi, hf⟩ ⟨i', hi', hf'⟩
    exact h2 i i' k (fun e => hab (ginj a b i hi (e ▸ hi'))) hf hf'
  · rintro j k ⟨i, _, hf⟩
    exact h3 i k hf
end

section
variable {P : Program} {Q : QP} {ρ : Env} {w : World} {next : Env → World → Prop} {I : Nat → Env → World → Prop} {m id id' : Nat}
theorem thenQ_n (h : next ρ w) : thenQ next Q .normal ρ w := h
theorem thenQ_x (h : Q (.exit id) ρ w) : thenQ next Q (.exit id) ρ w := h
theorem thenQ_r (h : Q .ret ρ w) : thenQ next Q .ret ρ w := h
theorem thenQ_g (h : Q (.goto id) ρ w) : thenQ next Q (.goto id) ρ w := h
theorem blkQ_n (h : Q .normal ρ w) : blkQ id Q .normal ρ w := h
theorem blkQ_r (h : Q .ret ρ w) : blkQ id Q .ret ρ w := h
theorem blkQ_g {l : Nat} (h : Q (.goto l) ρ w) : blkQ id Q (.goto l) ρ w := h
theorem blkQ_hit (h : Q .normal ρ w) : blkQ id Q (.exit id) ρ w := by simpa [blkQ] using h
theorem blkQ_miss (hne : Nat.beq id' id = false) (h : Q (.exit id') ρ w) : blkQ id Q (.exit id') ρ w := by
  have : id' ≠ id := fun e => by subst e; rw [Nat.beq_refl] at hne; cases hne
  simpa [blkQ, this] using h
theorem loopQ_n (m' : Nat) (hm : m' < m) (h : I m' ρ w) : loopQ I m Q .normal ρ w := ⟨m', hm, h⟩
theorem loopQ_x (h : Q (.exit id) ρ w) : loopQ I m Q (.exit id) ρ w := h
theorem loopQ_r (h : Q .ret ρ w) : loopQ I m Q .ret ρ w := h
theorem loopQ_g {l : Nat} (h : Q (.goto l) ρ w) : loopQ I m Q (.goto l) ρ w := h
end
theorem bT {p : Prop} [Decidable p] (h : p) : Value.bool (decide p) = Value.bool true := by rw [decide_eq_true h]
theorem bF {p : Prop} [Decidable p] (h : ¬ p) : Value.bool (decide p) = Value.bool false := by rw [decide_eq_false h]
theorem nF {b : Bool} (h : ¬ b = true) : Value.bool b = Value.bool false := by rw [Bool.eq_false_iff.2 h]
/-! short names -/
abbrev vs (n : UInt8) : Value := .string ⟨#[n]⟩
abbrev ve : Value := .string ⟨#[]⟩
abbrev vn : Value := .slice none 0 0
abbrev ni (n : Nat) : Value := .int .i64 (n : Int)
abbrev ii (n : Int) : Value := .int .i64 n
abbrev pt (b k : Nat) : Value := .pointer (some ⟨b, k, none⟩)
section
variable {P : Program} {n : Nat} {Q Q' : QP} {ρ : Env} {w : World}
theorem W1 {ops : Array Oper} {rest : List Oper} {d : Nat} {op : Op} {ty : TypeId} {pos : String} {after : Array Edge}
    (h : OpT P ⟨some d, op, ty, pos, after, none⟩ ρ w (fun v w' => WL P n ops Q rest (upd ρ d v) w')) (hd : Nat.blt d n = true := by rfl) : WL P n ops Q (⟨some d, op, ty, pos, after, none⟩ :: rest) ρ w := WL.step hd h
theorem W2 {ops : Array Oper} {rest : List Oper} {d : Nat} {op : Op} {ty : TypeId} {pos : String} {after : Array Edge} {j dj : Nat} {b : Bool} (hv : ρ dj = .bool b)
    (h : OpT P ⟨some d, op, ty, pos, after, some (j, b)⟩ ρ w (fun v w' => WL P n ops Q rest (upd ρ d v) w')) (hd : Nat.blt d n = true := by rfl) (hj : (ops[j]?).bind (·.dst) = some dj := by rfl) (hdj : Nat.blt dj n = true := by rfl) : WL P n ops Q (⟨some d, op, ty, pos, after, some (j, b)⟩ :: rest) ρ w := WL.stepG hd hj hdj hv h
theorem Wsr {id : Nat} {l : List Oper} {y : Code} (h : WL P n l.toArray (thenQ (WC P n y Q) Q) l ρ w) : WC P n (.seq (.region id l.toArray false) y) Q ρ w := WC.seq (WC.region h)
theorem Wnt {ops : Array Oper} {next : Env → World → Prop} (h : next ρ w) : WL P n ops (thenQ next Q) [] ρ w := WL.nil (thenQ_n h)
theorem Wns {ops : Array Oper} {id : Nat} {l : List Oper} {y : Code} (h : WL P n l.toArray (thenQ (WC P n y Q) Q) l ρ w) : WL P n ops (thenQ (WC P n (.seq (.region id l.toArray false) y) Q) Q') [] ρ w := Wnt (Wsr h)
theorem Wnr {ops : Array Oper} {id : Nat} {l : List Oper} (h : WL P n l.toArray Q l ρ w) : WL P n ops (thenQ (WC P n (.region id l.toArray false) Q) Q') [] ρ w := Wnt (WC.region h)
end
end Go.Eng
namespace Go.Eng
open Go.RowKit

theorem aN : ([] : List Value).all Value.oneCell' = true := rfl
theorem aC {a : Value} {l : List Value} (h : a.oneCell' = true) (hl : l.all Value.oneCell' = true) : (a :: l).all Value.oneCell' = true := by simp [h, hl]

section
variable {ρ : Env} {a b c d e f : Operand} {va vb vc vd ve vf : Value} {cap : List Value} {i j k l : Nat}
theorem ca0 : [] ++ ((#[] : Array Operand).toList.map (evO ρ)) ++ cap = cap := rfl
theorem ca1 (h1 : evO ρ a = va) : [] ++ ((#[a] : Array Operand).toList.map (evO ρ)) ++ cap = [va] ++ cap := by simp [h1]
theorem ca2 (h1 : evO ρ a = va) (h2 : evO ρ b = vb) : [] ++ ((#[a, b] : Array Operand).toList.map (evO ρ)) ++ cap = [va, vb] ++ cap := by simp [h1, h2]
theorem ca3 (h1 : evO ρ a = va) (h2 : evO ρ b = vb) (h3 : evO ρ c = vc) : [] ++ ((#[a, b, c] : Array Operand).toList.map (evO ρ)) ++ cap = [va, vb, vc] ++ cap := by simp [h1, h2, h3]
theorem ca4 (h1 : evO ρ a = va) (h2 : evO ρ b = vb) (h3 : evO ρ c = vc) (h4 : evO ρ d = vd) : [] ++ ((#[a, b, c, d] : Array Operand).toList.map (evO ρ)) ++ cap = [va, vb, vc, vd] ++ cap := by simp [h1, h2, h3, h4]
theorem mk0 : (#[] : Array Operand).map (evO ρ) = [].toArray := by simp
theorem mk1 (h1 : evO ρ a = va) : (#[a] : Array Operand).map (evO ρ) = [va].toArray := by simp [h1]
theorem mk2 (h1 : evO ρ a = va) (h2 : evO ρ b = vb) : (#[a, b] : Array Operand).map (evO ρ) = [va, vb].toArray := by simp [h1, h2]
theorem mk3 (h1 : evO ρ a = va) (h2 : evO ρ b = vb) (h3 : evO ρ c = vc) : (#[a, b, c] : Array Operand).map (evO ρ) = [va, vb, vc].toArray := by simp [h1, h2, h3]
theorem mk4 (h1 : evO ρ a = va) (h2 : evO ρ b = vb) (h3 : evO ρ c = vc) (h4 : evO ρ d = vd) : (#[a, b, c, d] : Array Operand).map (evO ρ) = [va, vb, vc, vd].toArray := by simp [h1, h2, h3, h4]
theorem mk5 (h1 : evO ρ a = va) (h2 : evO ρ b = vb) (h3 : evO ρ c = vc) (h4 : evO ρ d = vd) (h5 : evO ρ e = ve) : (#[a, b, c, d, e] : Array Operand).map (evO ρ) = [va, vb, vc, vd, ve].toArray := by simp [h1, h2, h3, h4, h5]
theorem mk6 (h1 : evO ρ a = va) (h2 : evO ρ b = vb) (h3 : evO ρ c = vc) (h4 : evO ρ d = vd) (h5 : evO ρ e = ve) (h6 : evO ρ f = vf) : (#[a, b, c, d, e, f] : Array Operand).map (evO ρ) = [va, vb, vc, vd, ve, vf].toArray := by simp [h1, h2, h3, h4, h5, h6]
/-- The parts of a literal, looked up. -/
def prts (ρ : Env) (ps : Array (Nat × Operand)) : List (Nat × Value) := ps.toList.map (fun p => (p.1, evO ρ p.2))
theorem mp0 : prts ρ #[] = [] := rfl
theorem mp1 (h1 : evO ρ a = va) : prts ρ #[(i, a)] = [(i, va)] := by simp [prts, h1]
theorem mp2 (h1 : evO ρ a = va) (h2 : evO ρ b = vb) : prts ρ #[(i, a), (j, b)] = [(i, va), (j, vb)] := by simp [prts, h1, h2]
theorem mp3 (h1 : evO ρ a = va) (h2 : evO ρ b = vb) (h3 : evO ρ c = vc) : prts ρ #[(i, a), (j, b), (k, c)] = [(i, va), (j, vb), (k, vc)] := by simp [prts, h1, h2, h3]
theorem mp4 (h1 : evO ρ a = va) (h2 : evO ρ b = vb) (h3 : evO ρ c = vc) (h4 : evO ρ d = vd) : prts ρ #[(i, a), (j, b), (k, c), (l, d)] = [(i, va), (j, vb), (k, vc), (l, vd)] := by simp [prts, h1, h2, h3, h4]
end

theorem wadd {a b : Nat} (h : a + b < 9223372036854775808) : IntKind.i64.wrap ((a : Int) + (b : Int)) = ((a + b : Nat) : Int) := by
  have : IntKind.i64.wrap ((a : Int) + (b : Int)) = (a : Int) + (b : Int) := IntWalk.i64_in _ (by omega)
  rw [this]; rfl
theorem wsub1 {a : Nat} (h : a < 9223372036854775807) : IntKind.i64.wrap (((a + 1 : Nat) : Int) - 1) = (a : Int) := by
  have : IntKind.i64.wrap (((a + 1 : Nat) : Int) - 1) = ((a + 1 : Nat) : Int) - 1 := IntWalk.i64_in _ (by omega)
  rw [this]; omega
theorem wrapI_i64 {a : Int} (h1 : -9223372036854775808 ≤ a) (h2 : a ≤ 9223372036854775807) : IntKind.i64.wrap a = a := IntWalk.i64_in _ (by omega)

def placesB (P : Program) (t : TypeId) : Option (List (Nat × Nat)) :=
  match P.underlying t with
  | some (.struct fs) => fs.toList.mapM (fun f => (sizeB P f.type).map (fun n => (f.offset, n)))
  | _ => none

section
variable {P : Program} {ρ : Env} {w : World} {K : Value → World → Prop} {d : Option Tmp} {ty : TypeId} {pos : String} {after : Array Edge} {gd : Option (Nat × Bool)}
variable {Z : Nat → Prop} {w0 : World} {L : List Res}

theorem run_places : ∀ (fs : List Field) (pl : List (Nat × Nat)), fs.mapM (fun f => (sizeB P f.type).map (fun n => (f.offset, n))) = some pl →
    (fs.mapM (fun f => (do pure (f.offset, ← sizeOf f.type) : Sem (Nat × Nat)))).run P w = .ok pl w
  | [], pl, h => by simp at h; subst h; simp
  | f :: fs, pl, h => by
    simp only [List.mapM_cons, Option.bind_eq_bind, Option.bind_eq_some_iff, Option.map_eq_some_iff] at h
    obtain ⟨p, ⟨n, hn, rfl⟩, ps, hps, hpl⟩ := h
    have ih := run_places fs ps hps
    simp only [Option.pure_def, Option.some.injEq] at hpl
    subst hpl
    simp only [List.mapM_cons, Sem.run_bind, run_sizeOf hn, Result.andThen_ok, Sem.run_pure]
    rw [ih]
    simp

theorem OpT.build {t : TypeId} {ps : Array (Nat × Operand)} {z : Value} {pl : List (Nat × Nat)} (parts : List (Nat × Value)) (cs : List Value) (hz : zeroB P t = some z) (hp : placesB P t = some pl)
    (he : prts ρ ps = parts) (hf : Instr.fill (fun i => pl[i]?) z.cells parts = some cs.toArray) (hK : K (.agg cs.toArray) w) : OpT P ⟨d, .build t ps, ty, pos, after, gd⟩ ρ w K := by
  refine OpT.val (v := .agg cs.toArray) ?_ hK
  unfold placesB at hp
  split at hp
  · rename_i fs hs
    have hm := run_places (P := P) (w := w) fs.toList pl hp
    have e : (ps.map (fun x => (x.1, evO ρ x.2))).toList = parts := by rw [← he]; simp [prts]
    have hm2 : (fs.mapM (fun f => (do pure (f.offset, ← sizeOf f.type) : Sem (Nat × Nat)))).run P w = .ok pl.toArray w := by
      rw [← Array.toArray_toList (xs := fs), List.mapM_toArray, Sem.run_map, hm]
      rfl
    simp only [execOp, Instr.build, Sem.run_bind, run_zeroValue hz, Result.andThen_ok, run_underlying hs, hm2]
    simp only [e]
    have e2 : (fun x : Nat => pl.toArray[x]?) = (fun i : Nat => pl[i]?) := by funext i; simp
    rw [e2, hf]
    rfl
  · cases hp

theorem OpT.buildSlice {t e n : Nat} {ps : Array (Nat × Operand)} {z : Value} {sz : Nat} (st : St Z w0 w L) (parts : List (Nat × Value)) (cs : List Value) (hu : P.underlying t = some (.slice e)) (hs : sizeB P e = some sz) (hz : zeroB P e = some z)
    (he : prts ρ ps = parts) (hf : Instr.fill (fun i => some (i * sz, sz)) ((Array.range (n * sz)).map (z.cells[· % z.cells.size]!)) parts = some cs.toArray) (hn : n * sz ≤ 16777216 ∧ 0 < n * sz)
    (hK : ∀ b w', St Z w0 w' (Blk b e cs :: L) → K (.slice (some ⟨b, 0, none⟩) n n) w') : OpT P ⟨d, .buildSlice t n ps, ty, pos, after, gd⟩ ρ w K := by
  have hst := st.alloc e cs
  refine OpT.val (v := .slice (some ⟨w.heap.size, 0, none⟩) n n) (w' := w.alloc (.cells cs.toArray e)) ?_ (hK _ _ hst)
  have e1 : (ps.map (fun x => (x.1, evO ρ x.2))).toList = parts := by rw [← he]; simp [prts]
  have h1 : ¬ (n * sz > 2 ^ 24) := by omega
  have h2 : ¬ (n * sz = 0) := by omega
  simp only [execOp, Instr.buildSlice, Sem.run_bind, run_underlying hu, Result.andThen_ok, run_sizeOf hs, h1, if_false, h2, run_zeroValue hz, Sem.run_pure, e1, hf, newRow, run_newObj, World.alloc_eq]

theorem OpT.idxX {α : Type} {r : Rl α} {t e : Nat} {x ix : Operand} {v : Value} {xs : List α} {y : α} (hu : P.underlying t = some (.slice e)) (hs : sizeB P e = some r.sz) (h : r.sl Z w0 v xs) (hx : evO ρ x = v) (kd : IntKind) (i : Nat) (hi : evO ρ ix = .int kd i) (hy : xs[i]? = some y)
    (hK : ∀ ad cs, RowZ Z w0 ad cs → r.R Z w0 cs y → K (.pointer (some ad)) w) : OpT P ⟨d, .indexAddr t x ix, ty, pos, after, gd⟩ ρ w K := by
  obtain ⟨A, c, rfl, hn, hg⟩ := h
  have hlt : i < xs.length := (List.getElem?_eq_some_iff.1 hy).1
  obtain ⟨ad, cs, rfl, hr, hR⟩ := hg i _ hy
  exact OpT.idx r.sz ad _ xs.length c kd i hu hs hx hi (by omega) (by omega) (by rw [Int.toNat_natCast]) (hK _ _ hr hR)
theorem OpT.notP {t : TypeId} {x : Operand} (p : Prop) [Decidable p] (hx : evO ρ x = .bool (decide p)) (hK : K (.bool (decide (¬ p))) w) : OpT P ⟨d, .unOp .not t x, ty, pos, after, gd⟩ ρ w K := by
  refine OpT.not (decide p) hx ?_
  rwa [← decide_not]

/-- An element opened ahead of its use. -/
def Rl.El {α : Type} (r : Rl α) (v : Value) (n i : Nat) (ad : Addr) : Prop := ∃ a c, v = .slice (some a) n c ∧ ad = a.add (i * r.sz) ∧ i < n ∧ n ≤ 140737488355328
theorem Rl.sl_el {α : Type} {r : Rl α} {v : Value} {xs : List α} {i : Nat} {y : α} (h : r.sl Z w0 v xs) (hy : xs[i]? = some y) : ∃ ad cs, r.El v xs.length i ad ∧ RowZ Z w0 ad cs ∧ r.R Z w0 cs y := by
  obtain ⟨A, c, rfl, hn, hg⟩ := h
  obtain ⟨ad, cs, rfl, hr, hR⟩ := hg i _ hy
  exact ⟨_, cs, ⟨ad, c, rfl, rfl, (List.getElem?_eq_some_iff.1 hy).1, hn⟩, hr, hR⟩
theorem OpT.idxE {α : Type} {r : Rl α} {t e : Nat} {x ix : Operand} {v : Value} {n : Nat} {ad : Addr} (hu : P.underlying t = some (.slice e)) (hs : sizeB P e = some r.sz) (hx : evO ρ x = v) (kd : IntKind) (i : Nat) (hi : evO ρ ix = .int kd i) (h : r.El v n i ad)
    (hK : K (.pointer (some ad)) w) : OpT P ⟨d, .indexAddr t x ix, ty, pos, after, gd⟩ ρ w K := by
  obtain ⟨a, c, rfl, rfl, hlt, hn⟩ := h
  exact OpT.idx r.sz a _ n c kd i hu hs hx hi (by omega) (by omega) (by rw [Int.toNat_natCast]) hK
/-- append(v, x): v one's own row; x's cells lie in a block at hand. -/
theorem OpT.append {t e sz n b : Nat} {x y : Operand} {z v : Value} {cs xs : List Value} {by_ : Nat} (st : St Z w0 w (Blk b e xs :: Row e sz v n cs :: L)) (m : Nat) (hu : P.underlying t = some (.slice e)) (hs : sizeB P e = some sz) (hz : zeroB P e = some z) (hzc : z.cells.size = sz) (hb : (P.info? e).map (·.bytes) = some by_) (h0 : 0 < sz)
    (hx : evO ρ x = v) (hy : evO ρ y = .slice (some ⟨b, 0, none⟩) m m) (hm : xs.length = m * sz) (h1 : xs.all Value.oneCell' = true) (hl : (n + m) * by_ ≤ 140737488355328) (hl2 : n + m ≤ 140737488355328)
    (hK : ∀ v' w', St Z w0 w' (Row e sz v' (n + m) (cs ++ xs) :: L) → (v' = .slice none 0 0 ↔ v = .slice none 0 0 ∧ m = 0) → K v' w') : OpT P ⟨d, .call ⟨.builtin .append, #[x, y], #[t, t]⟩, ty, pos, after, gd⟩ ρ w K := by
  obtain ⟨i, hi, hsz⟩ := Option.map_eq_some_iff.1 hs
  have hz' : i.zero = some z := by
    unfold zeroB at hz
    rw [hi] at hz
    exact hz
  have hb' : i.bytes = by_ := by rw [hi] at hb; simpa using hb
  have hrow := st.row (i := 1) rfl
  have hcell : ∀ j u, xs[j]? = some u → w.cell? ((⟨b, 0, none⟩ : Addr).add j) = some u := st.rowB (i := 0) rfl
  obtain ⟨v', w', hr, hown, hg, hnil, hat⟩ := run_append_own_at (P := P) w 0 t ty e i z sz by_ hu hi hz' hsz hb' hzc h0 v n cs hrow ⟨b, 0, none⟩ m m xs hm hcell (by simpa using h1) (by simp only [maxLen]; omega) hl (Nat.zero_le _)
  refine OpT.val (v := v') (w' := w') ?_ (hK v' w' ?_ hnil)
  · simp only [execOp, resolve, invoke, builtin, Sem.run_bind, Sem.run_pure, Result.andThen_ok, List.map_toArray, List.map_cons, List.map_nil, hx, hy, hr]
  · have st2 : St Z w0 w (Row e sz v n cs :: L) := by
      have := St.selT (L := L) [Blk b e xs, Row e sz v n cs] [1] rfl (by decide) st
      exact this
    obtain ⟨S, ⟨hS, _⟩, hlt, H⟩ := st2.focus (i := 0) rfl
    refine H w' (Row e sz v' (n + m) (cs ++ xs)) (fun k => v'.ownBlock = some k) hg.os hg.tape hg.output hg.size (fun k hk hns => hg.block k hk (fun h => hns ((hS k).2 h.symm))) ⟨fun _ => Iff.rfl, hown⟩ ?_
    intro k hk
    have hlt' : k < w'.heap.size := by
      rcases hown.2 with ⟨rfl, _⟩ | ⟨g, cap, cur, rfl, _, hgg, _⟩
      · simp [Value.ownBlock] at hk
      · simp [Value.ownBlock] at hk
        subst hk
        exact (Array.getElem?_eq_some_iff.1 hgg).1
    refine ⟨hlt', ?_⟩
    rcases hat with h | h
    · exact .inl ((hS k).2 (h ▸ hk))
    · rw [h] at hk
      simp at hk
      right; omega
end
end Go.Eng
namespace Go.Eng
open Go.RowKit

section
variable {P : Program} {w : World} {xs ys : Array Value} {d : Nat}
theorem eqs_of {t : TypeId} {fs : Array Field} {r : Bool} (hu : P.underlying t = some (.struct fs)) (hp : P.stoodInHeld t = false) (h : (Op.eqFields d xs ys fs.toList).run P w = .ok r w) : (Op.equalIn (d + 1) t (.agg xs) (.agg ys)).run P w = .ok r w := by
  have e : P.fieldsOf t = fs := by simp [Program.fieldsOf, hu]
  rw [run_equalIn_struct w d t xs ys (by rw [e]; exact hu) hp, e]
  exact h
theorem eqs_nil : (Op.eqFields d xs ys []).run P w = .ok true w := rfl
theorem eqs_cons {f : Field} {fs : List Field} {a b : Value} {r rs : Bool} (hn : f.name ≠ "_") (ha : (part f.type xs f.offset).run P w = .ok a w) (hb : (part f.type ys f.offset).run P w = .ok b w)
    (he : (Op.equalIn d f.type a b).run P w = .ok r w) (hr : (Op.eqFields d xs ys fs).run P w = .ok rs w) : (Op.eqFields d xs ys (f :: fs)).run P w = .ok (r && rs) w := by
  unfold Op.eqFields
  simp only [hn, ne_eq, not_false_eq_true, if_true, Sem.run_bind, ha, hb, he, Result.andThen_ok]
  cases r
  · rfl
  · simpa using hr
theorem run_partS {t off : Nat} {v : Value} {cs : Array Value} (h : aggB P t = some false) (hv : cs[off]? = some v) : (part t cs off).run P w = .ok v w := by
  simp [part, run_isAgg h, hv]
theorem run_partA {t off n : Nat} {cs : Array Value} (h : aggB P t = some true) (hs : sizeB P t = some n) : (part t cs off).run P w = .ok (.agg (cs.extract off (off + n))) w := by
  simp [part, run_isAgg h, run_sizeOf hs]
end

def byt (s : ByteArray) (k : Nat) : Int := ((s.data.toList.getD k 0).toNat : Int)
theorem byt_nn (s : ByteArray) (k : Nat) : 0 ≤ byt s k := by unfold byt; omega
theorem byt_lt (s : ByteArray) (k : Nat) : byt s k < 256 := by unfold byt; have := (s.data.toList.getD k 0).toNat_lt; omega
/-- A row that holds a string's bytes. -/
def Byt (b e : Nat) (s : ByteArray) : Res where
  P w S := (∀ k, S k ↔ k = b) ∧ ∃ cs fr, w.heap[b]? = some (.cells cs e fr) ∧ ∀ j, j < s.size → cs[j]? = some (.int .u8 (byt s j))
  loc := fun ⟨h1, cs, fr, h2, h3⟩ h => ⟨h1, cs, fr, (h b ((h1 b).2 rfl)).trans h2, h3⟩

section
variable {P : Program} {ρ : Env} {w : World} {K : Value → World → Prop} {d : Option Tmp} {ty : TypeId} {pos : String} {after : Array Edge} {gd : Option (Nat × Bool)}
variable {Z : Nat → Prop} {w0 : World} {L : List Res}

theorem OpT.aggEq {t : TypeId} {x y : Operand} {yt : TypeId} (xs ys : List Value) (r : Bool) (hg : P.eqGuardType P.depth t = false) (he : ∀ w, (Op.equalIn 10000 t (.agg xs.toArray) (.agg ys.toArray)).run P w = .ok r w) (hx : evO ρ x = .agg xs.toArray) (hy : evO ρ y = .agg ys.toArray) (hK : K (.bool r) w) :
    OpT P ⟨d, .binOp .eql t x y yt, ty, pos, after, gd⟩ ρ w K :=
  OpT.val (v := .bool r) (by simp only [execOp, hx, hy, Sem.run_bind, run_eqGuard_agg w .eql t x y _ _ hg, Result.andThen_ok, run_eql_struct, he, Sem.run_pure]) hK
theorem OpT.aggNe {t : TypeId} {x y : Operand} {yt : TypeId} (xs ys : List Value) (r : Bool) (hg : P.eqGuardType P.depth t = false) (he : ∀ w, (Op.equalIn 10000 t (.agg xs.toArray) (.agg ys.toArray)).run P w = .ok r w) (hx : evO ρ x = .agg xs.toArray) (hy : evO ρ y = .agg ys.toArray) (hK : K (.bool (!r)) w) :
    OpT P ⟨d, .binOp .neq t x y yt, ty, pos, after, gd⟩ ρ w K :=
  OpT.val (v := .bool (!r)) (by simp only [execOp, hx, hy, Sem.run_bind, run_eqGuard_agg w .neq t x y _ _ hg, Result.andThen_ok, run_neq_struct, he, Sem.run_pure]) hK
theorem str_get (s : ByteArray) (k : Nat) (hk : k < s.size) : ((s[k]'hk).toNat : Int) = byt s k := by
  unfold byt
  have : s.data.toList.getD k 0 = s[k] := by
    rw [List.getD_eq_getElem?_getD]
    have hk' : k < s.data.size := hk
    rw [Array.getElem?_toList, Array.getElem?_eq_getElem hk']
    rfl
  rw [this]
theorem OpT.idxStr {t : TypeId} {x ix : Operand} (s : ByteArray) (kd : IntKind) (k : Nat) (hu : P.underlying t = some .string) (hx : evO ρ x = .string s) (hi : evO ρ ix = .int kd k) (hk : k < s.size) (hK : K (.int .u8 (byt s k)) w) : OpT P ⟨d, .index t x ix, ty, pos, after, gd⟩ ρ w K := by
  rw [← str_get s k hk] at hK
  exact OpT.val (v := .int .u8 (s[k].toNat : Int)) (by simp [execOp, hx, hi, Instr.index, asIntOf, run_underlying hu, getElem?_pos s k hk]) hK
theorem OpT.strBytes {src dst e : TypeId} {x : Operand} (st : St Z w0 w L) (s : ByteArray) (hs : P.underlying src = some .string) (hd : P.underlying dst = some (.slice e)) (he : P.underlying e = some (.int .u8)) (hx : evO ρ x = .string s)
    (hK : ∀ b c w', St Z w0 w' (Byt b e s :: L) → K (.slice (some ⟨b, 0, none⟩) s.size c) w') : OpT P ⟨d, .convert src dst x, ty, pos, after, gd⟩ ρ w K := by
  refine OpT.val (v := .slice (some ⟨w.heap.size, 0, none⟩) s.size (grownCap w s.size 0 e)) (w' := Lib.bytesWorld w e s) ?_ (hK _ _ _ ?_)
  · simp only [execOp, hx, Sem.run_bind, Lib.run_convert_string_bytes w src dst e s hs hd he, Result.andThen_ok, Sem.run_pure]
  · have hb : Below w.heap.size w (Lib.bytesWorld w e s) := ⟨rfl, rfl, rfl, by rw [Lib.bytesWorld_size]; omega, fun k hk => Lib.bytesWorld_at_old w e s k hk⟩
    refine st.cons hb (Byt w.heap.size e s) (fun k => k = w.heap.size) ⟨fun _ => Iff.rfl, _, _, Lib.bytesWorld_at_new w e s, fun j hj => ?_⟩ (fun k hk => by subst hk; rw [Lib.bytesWorld_size]; omega)
    simp only [Lib.bytesCells]
    have hj' : j < s.data.size := hj
    rw [Array.getElem?_append_left (by simpa using hj')]
    rw [Array.getElem?_map, Array.getElem?_eq_getElem hj']
    simp only [Option.map_some, byt, List.getD_eq_getElem?_getD, Array.getElem?_toList, Array.getElem?_eq_getElem hj', Option.getD_some]
theorem St.byt (st : St Z w0 w L) {i b e k : Nat} {s : ByteArray} (hi : L[i]? = some (Byt b e s)) (hk : k < s.size) : w.cell? ((⟨b, 0, none⟩ : Addr).add k) = some (.int .u8 (Eng.byt s k)) := by
  obtain ⟨S, ⟨hS, cs, fr, hb, hc⟩, _⟩ := st.focus hi
  rw [Addr.add_lit, Nat.zero_add, cell_of_row w b k cs e fr hb]
  exact hc k hk
end
end Go.Eng
namespace Go.Eng
open Go.RowKit

section
variable {Z : Nat → Prop} {w0 w : World} {L L' : List Res}
theorem perm_map {l1 l2 : List Res} (h : l1.Perm l2) : ∃ σ : Nat → Nat, (∀ i j, σ i = σ j → i = j) ∧ ∀ (j : Nat), l2[j]? = l1[σ j]? := by
  induction h with
  | nil => exact ⟨id, fun _ _ h => h, fun _ => rfl⟩
  | cons x _ ih =>
    obtain ⟨σ, h1, h2⟩ := ih
    refine ⟨fun i => match i with | 0 => 0 | i + 1 => σ i + 1, ?_, ?_⟩
    · intro i j h
      cases i <;> cases j <;> simp at h ⊢
      exact h1 _ _ h
    · intro j
      cases j with
      | zero => rfl
      | succ j => simpa using h2 j
  | swap x y l =>
    refine ⟨fun i => match i with | 0 => 1 | 1 => 0 | i + 2 => i + 2, ?_, ?_⟩
    · intro i j h
      match i, j with
      | 0, 0 => rfl
      | 0, 1 => simp at h
      | 0, j + 2 => simp at h
      | 1, 0 => simp at h
      | 1, 1 => rfl
      | 1, j + 2 => simp at h
      | i + 2, 0 => simp at h
      | i + 2, 1 => simp at h
      | i + 2, j + 2 => simpa using h
    · intro j
      match j with
      | 0 => rfl
      | 1 => rfl
      | j + 2 => rfl
  | trans _ _ ih1 ih2 =>
    obtain ⟨σ, h1, h2⟩ := ih1
    obtain ⟨τ, g1, g2⟩ := ih2
    exact ⟨fun j => σ (τ j), fun i j h => g1 _ _ (h1 _ _ h), fun j => (g2 j).trans (h2 (τ j))⟩
theorem St.perm (h : L.Perm L') (st : St Z w0 w L) : St Z w0 w L' := by
  obtain ⟨σ, hi, hg⟩ := perm_map h
  obtain ⟨F, h1, h2, h3⟩ := st.sep
  exact ⟨st.os, st.tape, st.output, st.size, st.dom, st.old, fun j => F (σ j), fun j r hr => h1 (σ j) r (by rw [← hg]; exact hr), fun i j k hij => h2 _ _ k (fun e => hij (hi _ _ e)), fun j k => h3 (σ j) k⟩
end

def updO (ρ : Env) : Option Tmp → Value → Env
  | some d, v => upd ρ d v
  | none, _ => ρ
/-- One operation by itself, said as a list of one. -/
def oneQ (ρ : Env) (d : Option Tmp) (K : Value → World → Prop) : QP := fun ex ρ' w' => ex = .normal ∧ ∃ v, ρ' = updO ρ d v ∧ K v w'
theorem oneQ.mk {ρ : Env} {d : Tmp} {K : Value → World → Prop} {v : Value} {w : World} (h : K v w) : oneQ ρ (some d) K .normal (upd ρ d v) w := ⟨rfl, v, rfl, h⟩
theorem oneQ.mkN {ρ : Env} {K : Value → World → Prop} {w : World} (v : Value) (h : K v w) : oneQ ρ none K .normal ρ w := ⟨rfl, v, rfl, h⟩

def dstOf (l : List Oper) (i : Nat) : Option Tmp := (l[i]?).bind (·.dst)
def depOf (l : List Oper) (i j : Nat) : Bool := match l[i]? with | some o => o.after.toList.any (fun e => Region.binds .any e && e.on == j) | none => false
/-- The head's conditions on the text alone. -/
def headB (m : Nat) (l : List Oper) (n : Nat) : Bool :=
  Nat.ble n l.length &&
  (List.range n).all (fun i => (match l[i]? with | some o => o.after.all (fun e => !Region.binds .any e || Nat.blt e.on i) && (match o.dst with | some d => Nat.blt d m | none => true) | none => false)) &&
  (List.range n).all (fun i => (List.range n).all (fun j => Nat.beq i j || (match dstOf l i, dstOf l j with | some a, some b => !Nat.beq a b | _, _ => true))) &&
  (Nat.beq n l.length || (Region.sinkB .any l.toArray n && Region.chainB .any l.toArray n)) &&
  Region.seqB .any l.toArray (l.drop n).length n ((List.range l.length).map (fun j => Nat.blt j n)).toArray

def flat (D : Nat → Value → List Res) (on : Nat → Bool) (vals : Nat → Value) (is : List Nat) : List Res := is.flatMap (fun i => if on i then D i (vals i) else [])
theorem flat_same {D : Nat → Value → List Res} {on on' : Nat → Bool} {vals vals' : Nat → Value} {is : List Nat} (h : ∀ j ∈ is, on' j = on j ∧ vals' j = vals j) : flat D on' vals' is = flat D on vals is := by
  induction is with
  | nil => rfl
  | cons j js ih =>
    have hj := h j (by simp)
    simp only [flat, List.flatMap_cons] at ih ⊢
    rw [hj.1, hj.2, ih (fun k hk => h k (by simp [hk]))]
theorem flat_put {D : Nat → Value → List Res} {on : Nat → Bool} {vals : Nat → Value} {is : List Nat} {i : Nat} {v : Value} (hn : is.Nodup) (hi : i ∈ is) (ho : on i = false) :
    (D i v ++ flat D on vals is).Perm (flat D (fun j => if j = i then true else on j) (fun j => if j = i then v else vals j) is) := by
  induction is with
  | nil => cases hi
  | cons j js ih =>
    have hnj := List.nodup_cons.1 hn
    by_cases hji : j = i
    · subst hji
      have e : flat D (fun k => if k = j then true else on k) (fun k => if k = j then v else vals k) js = flat D on vals js := flat_same (fun k hk => by
        have : k ≠ j := fun h => hnj.1 (h ▸ hk)
        simp [this])
      simp only [flat, List.flatMap_cons] at e ⊢
      simp only [ho, Bool.false_eq_true, if_false, List.nil_append, if_true]
      rw [e]
    · have hi' : i ∈ js := by
        rcases List.mem_cons.1 hi with h | h
        · exact absurd h.symm hji
        · exact h
      have ih' := ih hnj.2 hi'
      simp only [flat, List.flatMap_cons] at ih' ⊢
      simp only [hji, if_false]
      refine List.Perm.trans ?_ (List.Perm.append_left _ ih')
      rw [← List.append_assoc, ← List.append_assoc]
      exact List.Perm.append_right _ List.perm_append_comm

section
variable {P : Program} {m n : Nat} {l : List Oper} {Q : QP} {Z : Nat → Prop} {w0 : World} {L : List Res}

structure DInv (m : Nat) (l : List Oper) (n : Nat) (Z : Nat → Prop) (w0 : World) (L : List Res) (F : Nat → Value → Prop) (D : Nat → Value → List Res) (ρ0 : Env) (listed : Array Bool) (vals : Nat → Value) (ρ : Env) (w : World) : Prop where
  inv : HeadInv .any l.toArray n listed
  val : ∀ i, i < n → listed.getD i false = true → F i (vals i) ∧ ∀ d, dstOf l i = some d → ρ d = vals i
  old : ∀ t, (∀ i, i < n → dstOf l i ≠ some t) → ρ t = ρ0 t
  st : St Z w0 w (flat D (fun i => listed.getD i false) vals (List.range n) ++ L)

theorem wpOp_of_WL {i : Nat} {o : Oper} {a : Act} {ρ : Env} {w : World} {K : Value → World → Prop} {K' : Act → World → Prop} {Q' : Exit → Act → World → Prop} {ops : Array Oper} (hi : ops[i]? = some o) (ha : Fr a m ρ)
    (h : WL P m ops (oneQ ρ o.dst K) [o] ρ w) (hK : ∀ v a' w', Fr a' m (updO ρ o.dst v) → K v w' → K' a' w') : wpOp P ops Q' i K' a w := by
  have h1 := h a ha
  unfold wpOp
  simp only [hi]
  have hend : ∀ a' w', wpList P ops (lft m (oneQ ρ o.dst K)) [] a' w' → K' a' w' := by
    rintro a' w' ⟨ρ', hf, _, v, rfl, hk⟩
    exact hK v a' w' hf hk
  unfold wpList at h1
  split at h1
  · rename_i hw
    rw [if_pos hw]
    rcases h1 with h1 | ⟨_, a0, w0, ρ', _, h3, _⟩
    · left
      unfold Oper.wp at *
      exact upon_mono h1 hend (fun e a w hne ⟨ρ', hf, hq⟩ => absurd hq.1 hne)
    · cases h3
  · rename_i hw
    rw [if_neg hw]
    exact hend _ _ h1

theorem dinv_ready {F : Nat → Value → Prop} {D : Nat → Value → List Res} {ρ0 : Env} {listed : Array Bool} {vals : Nat → Value} {ρ : Env} {w : World} (hB : headB m l n = true) (I : DInv m l n Z w0 L F D ρ0 listed vals ρ w)
    (hun : ∃ i, i < n ∧ listed.getD i false = false) : (∃ i, i ∈ Region.ready .any l.toArray listed) ∧ ∀ i ∈ Region.ready .any l.toArray listed, i < n := by
  simp only [headB, Bool.and_eq_true] at hB
  obtain ⟨⟨⟨⟨h1, h2⟩, _⟩, h4⟩, _⟩ := hB
  have hnl : n ≤ l.length := by simpa [Nat.ble_eq] using h1
  obtain ⟨i, hi, hu⟩ := least_of hun
  obtain ⟨hin, hil⟩ := hi
  have hsz : listed.size = l.length := by rw [I.inv.size]; simp
  constructor
  · refine ⟨i, mem_ready.2 ⟨getD_in (by omega) hil, ?_⟩⟩
    have h2i := List.all_eq_true.1 h2 i (List.mem_range.2 hin)
    have hlt : i < l.length := by omega
    rw [List.getElem?_eq_getElem hlt] at h2i
    refine ⟨l[i], by simp [hlt], fun e he hb => ?_⟩
    simp only [Bool.and_eq_true] at h2i
    have := Array.all_eq_true_iff_forall_mem.1 h2i.1 e he
    simp only [hb, Bool.not_true, Bool.false_or, Nat.blt_eq] at this
    cases hg : listed.getD e.on false with
    | true => rfl
    | false => have := hu e.on ⟨by omega, hg⟩; omega
  · intro t ht
    rcases Nat.lt_or_ge t n with h | h
    · exact h
    · exfalso
      obtain ⟨_, o, ho, _⟩ := mem_ready.1 ht
      have htl : t < l.length := by simpa using (Array.getElem?_eq_some_iff.1 ho).1
      simp only [Bool.or_eq_true, Bool.and_eq_true] at h4
      rcases h4 with h4 | ⟨hs, hc⟩
      · have : n = l.length := Nat.eq_of_beq_eq_true h4
        omega
      · exact tail_waits hs hc (by simp; omega) I.inv _ i rfl hin (getD_in (by omega) hil) t h ht

theorem dinv_step {F : Nat → Value → Prop} {D : Nat → Value → List Res} {ρ0 : Env} {listed : Array Bool} {vals : Nat → Value} {ρ : Env} {w w' : World} (hB : headB m l n = true) (I : DInv m l n Z w0 L F D ρ0 listed vals ρ w) {i : Nat} (hin : i < n)
    (hr : i ∈ Region.ready .any l.toArray listed) {v : Value} (hF : F i v) (hst : St Z w0 w' (D i v ++ (flat D (fun i => listed.getD i false) vals (List.range n) ++ L))) :
    DInv m l n Z w0 L F D ρ0 (listed.setIfInBounds i true) (fun j => if j = i then v else vals j) (updO ρ (dstOf l i) v) w' := by
  have hun := (mem_ready.1 hr).1
  have hsz : listed.size = l.length := by rw [I.inv.size]; simp
  have hil : i < listed.size := by
    rcases Nat.lt_or_ge i listed.size with h | h
    · exact h
    · simp [Array.getElem?_eq_none h] at hun
  simp only [headB, Bool.and_eq_true] at hB
  obtain ⟨⟨⟨⟨_, _⟩, h3⟩, _⟩, _⟩ := hB
  have hdist : ∀ j, j < n → j ≠ i → ∀ d, dstOf l j = some d → dstOf l i ≠ some d := by
    intro j hj hji d hd hd2
    have h := List.all_eq_true.1 (List.all_eq_true.1 h3 i (List.mem_range.2 hin)) j (List.mem_range.2 hj)
    rw [hd, hd2] at h
    simp only [Nat.beq_refl, Bool.not_true, Bool.or_false] at h
    exact hji (Nat.eq_of_beq_eq_true h).symm
  have hget : ∀ d j, updO ρ d v j = if d = some j then v else ρ j := by
    intro d j
    cases d with
    | none => simp [updO]
    | some d =>
      simp only [updO, upd, Option.some.injEq]
      by_cases h : j = d
      · subst h; simp
      · have : Nat.beq j d = false := by
          cases hb : Nat.beq j d
          · rfl
          · exact absurd (Nat.eq_of_beq_eq_true hb) h
        rw [this, if_neg (Ne.symm h)]
        rfl
  refine ⟨I.inv.set hr hin, ?_, ?_, ?_⟩
  · intro j hj hl
    by_cases hji : j = i
    · subst hji
      simp only [if_true]
      exact ⟨hF, fun d hd => by rw [hget, if_pos hd]⟩
    · simp only [hji, if_false]
      rw [getD_set_ne false (Ne.symm hji)] at hl
      obtain ⟨h1, h2⟩ := I.val j hj hl
      refine ⟨h1, fun d hd => ?_⟩
      rw [hget, if_neg (hdist j hj hji d hd)]
      exact h2 d hd
  · intro t ht
    rw [hget, if_neg (ht i hin)]
    exact I.old t ht
  · have hp := flat_put (D := D) (on := fun i => listed.getD i false) (vals := vals) (v := v) (is := List.range n) List.nodup_range (List.mem_range.2 hin) (getD_both hun)
    have st1 := St.perm (L' := flat D (fun j => if j = i then true else listed.getD j false) (fun j => if j = i then v else vals j) (List.range n) ++ L) (by rw [← List.append_assoc]; exact List.Perm.append_right L hp) hst
    have e : (fun j => (listed.setIfInBounds i true).getD j false) = (fun j => if j = i then true else listed.getD j false) := by
      funext j
      by_cases hji : j = i
      · subst hji; simp [hil]
      · rw [getD_set_ne false (Ne.symm hji)]; simp [hji]
    rw [e]
    exact st1

theorem draw_any {F : Nat → Value → Prop} {D : Nat → Value → List Res} {ρ0 : Env} {Q : QP} (hB : headB m l n = true)
    (hop : ∀ i o, i < n → l[i]? = some o → ∀ (vals : Nat → Value) (ρ : Env) (w : World) (X : List Res), (∀ j, depOf l i j = true → F j (vals j) ∧ ∀ d, dstOf l j = some d → ρ d = vals j) → (∀ t, (∀ i, i < n → dstOf l i ≠ some t) → ρ t = ρ0 t) → St Z w0 w (X ++ L) →
      WL P m l.toArray (oneQ ρ o.dst (fun v w' => F i v ∧ St Z w0 w' (D i v ++ (X ++ L)))) [o] ρ w)
    (hend : ∀ (vals : Nat → Value) (ρ : Env) (w : World), (∀ i, i < n → F i (vals i) ∧ ∀ d, dstOf l i = some d → ρ d = vals i) → (∀ t, (∀ i, i < n → dstOf l i ≠ some t) → ρ t = ρ0 t) → St Z w0 w (flat D (fun _ => true) vals (List.range n) ++ L) →
      WL P m l.toArray Q (l.drop n) ρ w) :
    ∀ (k : Nat) (listed : Array Bool) (vals : Nat → Value) (ρ : Env) (w : World) (a : Act), ((List.range n).filter (fun i => !listed.getD i false)).length = k → Fr a m ρ → DInv m l n Z w0 L F D ρ0 listed vals ρ w →
      wpAny P .any l.toArray (lft m Q) (k + (l.drop n).length) listed a w := by
  intro k
  induction k with
  | zero =>
    intro listed vals ρ w a hk ha I
    have hall : ∀ i, i < n → listed.getD i false = true := by
      intro i hi
      have := List.length_eq_zero_iff.1 hk
      have h2 := List.filter_eq_nil_iff.1 this i (List.mem_range.2 hi)
      simpa using h2
    have hB' := hB
    simp only [headB, Bool.and_eq_true] at hB'
    obtain ⟨⟨⟨⟨h1, _⟩, _⟩, _⟩, h5⟩ := hB'
    have hnl : n ≤ l.length := by simpa [Nat.ble_eq] using h1
    have hsz : listed.size = l.length := by rw [I.inv.size]; simp
    have hcan : listed = ((List.range l.length).map (fun j => Nat.blt j n)).toArray := by
      apply Array.ext
      · simp [hsz]
      · intro j hj hj2
        have hjl : j < l.length := by omega
        simp only [List.getElem_toArray, List.getElem_map, List.getElem_range]
        by_cases hjn : j < n
        · have := hall j hjn
          have e : Nat.blt j n = true := by simpa [Nat.blt_eq] using hjn
          rw [e]
          simpa [hj] using this
        · have := I.inv.tail j (by omega) (by simpa using hjl)
          have e : Nat.blt j n = false := by
            cases hb : Nat.blt j n
            · rfl
            · simp [Nat.blt_eq] at hb; omega
          rw [e]
          simpa [hj] using this
    rw [Nat.zero_add]
    refine wpAny_of_seq (l.drop n) n listed a w (fun j => by simp [List.getElem?_drop]) (by rw [hcan]; exact h5) ?_
    refine hend vals ρ w (fun i hi => I.val i hi (hall i hi)) I.old ?_ a ha
    have e : flat D (fun i => listed.getD i false) vals (List.range n) = flat D (fun _ => true) vals (List.range n) := flat_same (fun j hj => ⟨hall j (List.mem_range.1 hj), rfl⟩)
    rw [← e]
    exact I.st
  | succ k ih =>
    intro listed vals ρ w a hk ha I
    have hun : ∃ i, i < n ∧ listed.getD i false = false := by
      have : 0 < ((List.range n).filter (fun i => !listed.getD i false)).length := by omega
      obtain ⟨i, hi⟩ := List.exists_mem_of_length_pos this
      obtain ⟨h1, h2⟩ := List.mem_filter.1 hi
      exact ⟨i, List.mem_range.1 h1, by simpa using h2⟩
    obtain ⟨⟨i0, hi0⟩, hlt⟩ := dinv_ready hB I hun
    rw [show k + 1 + (l.drop n).length = (k + (l.drop n).length) + 1 by omega]
    refine ⟨fun h => (by rw [h] at hi0; cases hi0), fun i hi => ?_⟩
    have hin := hlt i hi
    obtain ⟨hiu, o, ho, hdeps⟩ := mem_ready.1 hi
    have ho' : l[i]? = some o := by simpa using ho
    refine wpOp_of_WL ho ha (hop i o hin ho' vals ρ w (flat D (fun i => listed.getD i false) vals (List.range n)) ?_ I.old I.st) ?_
    · intro j hj
      unfold depOf at hj
      rw [ho'] at hj
      obtain ⟨e, he, hb⟩ := List.any_eq_true.1 hj
      have he := Array.mem_toList_iff.1 he
      simp only [Bool.and_eq_true, beq_iff_eq] at hb
      have hlj := hdeps e he hb.1
      rw [hb.2] at hlj
      refine I.val j ?_ hlj
      have hB' := hB
      simp only [headB, Bool.and_eq_true] at hB'
      have h2i := List.all_eq_true.1 hB'.1.1.1.2 i (List.mem_range.2 hin)
      rw [ho'] at h2i
      simp only [Bool.and_eq_true] at h2i
      have := Array.all_eq_true_iff_forall_mem.1 h2i.1 e he
      simp only [hb.1, Bool.not_true, Bool.false_or, Nat.blt_eq] at this
      omega
    · rintro v a' w' hf ⟨hF, hst⟩
      have hd : o.dst = dstOf l i := by simp [dstOf, ho']
      rw [hd] at hf
      refine ih (listed.setIfInBounds i true) _ _ w' a' ?_ hf (dinv_step hB I hin hi hF hst)
      have hset : ∀ j, j ≠ i → (listed.setIfInBounds i true).getD j false = listed.getD j false := fun j hj => getD_set_ne false (Ne.symm hj)
      have hii : (listed.setIfInBounds i true).getD i false = true := by
        have hil : i < listed.size := by
          rcases Nat.lt_or_ge i listed.size with h | h
          · exact h
          · simp [Array.getElem?_eq_none h] at hiu
        simp [hil]
      have key : ∀ is : List Nat, is.Nodup → i ∈ is → (is.filter (fun j => !(listed.setIfInBounds i true).getD j false)).length + 1 = (is.filter (fun j => !listed.getD j false)).length := by
        intro is
        induction is with
        | nil => intro _ h; cases h
        | cons j js ihj =>
          intro hn hm
          have hnd := List.nodup_cons.1 hn
          by_cases hji : j = i
          · subst hji
            have e : js.filter (fun k => !(listed.setIfInBounds j true).getD k false) = js.filter (fun k => !listed.getD k false) := List.filter_congr (fun k hk => by
              have : k ≠ j := fun h => hnd.1 (h ▸ hk)
              rw [hset k this])
            rw [List.filter_cons, List.filter_cons, hii, getD_both hiu, e]
            simp
          · have hm' : i ∈ js := by
              rcases List.mem_cons.1 hm with h | h
              · exact absurd h.symm hji
              · exact h
            have := ihj hnd.2 hm'
            rw [List.filter_cons, List.filter_cons, hset j hji]
            split
            · rw [List.length_cons, List.length_cons, ← this]
            · exact this
      have := key (List.range n) List.nodup_range (List.mem_range.2 hin)
      omega

theorem WC.draw0 {id : Nat} {ρ0 : Env} {w : World} (n : Nat) (F : Nat → Value → Prop) (D : Nat → Value → List Res) (st : St Z w0 w L) (hm : P.follows .mixedOrders = true) (hB : headB m l n = true)
    (hop : ∀ i o, i < n → l[i]? = some o → ∀ (vals : Nat → Value) (ρ : Env) (w : World) (X : List Res), (∀ j, depOf l i j = true → F j (vals j) ∧ ∀ d, dstOf l j = some d → ρ d = vals j) → (∀ t, (∀ i, i < n → dstOf l i ≠ some t) → ρ t = ρ0 t) → St Z w0 w (X ++ L) →
      WL P m l.toArray (oneQ ρ o.dst (fun v w' => F i v ∧ St Z w0 w' (D i v ++ (X ++ L)))) [o] ρ w)
    (hend : ∀ (vals : Nat → Value) (ρ : Env) (w : World), (∀ i, i < n → F i (vals i) ∧ ∀ d, dstOf l i = some d → ρ d = vals i) → (∀ t, (∀ i, i < n → dstOf l i ≠ some t) → ρ t = ρ0 t) → St Z w0 w (flat D (fun _ => true) vals (List.range n) ++ L) →
      WL P m l.toArray Q (l.drop n) ρ w) : WC P m (.region id l.toArray true) Q ρ0 w := by
  intro a ha
  refine wp_region_any hm ?_
  have hB' := hB
  simp only [headB, Bool.and_eq_true] at hB'
  have hnl : n ≤ l.length := by simpa [Nat.ble_eq] using hB'.1.1.1.1
  have e0 : ∀ j, (Array.replicate l.toArray.size false).getD j false = false := fun j => getD_replicate_false _ _
  have h0 : DInv m l n Z w0 L F D ρ0 (Array.replicate l.toArray.size false) (fun _ => undef) ρ0 w.drew := by
    refine ⟨⟨by simp, fun j oj _ hl => (by rw [e0] at hl; cases hl), fun t _ ht => getD_in (by simpa using ht) (e0 t)⟩, fun i _ hl => (by rw [e0] at hl; cases hl), fun _ _ => rfl, ?_⟩
    have : flat D (fun i => (Array.replicate l.toArray.size false).getD i false) (fun _ => undef) (List.range n) = [] := by
      unfold flat
      rw [List.flatMap_eq_nil_iff]
      intro j _
      show (if (Array.replicate l.toArray.size false).getD j false = true then D j undef else []) = []
      rw [e0]; rfl
    rw [this]
    exact st.drew
  have := draw_any (P := P) (Q := Q) hB hop hend n (Array.replicate l.toArray.size false) (fun _ => undef) ρ0 w.drew a (by
    rw [List.filter_eq_self.2 (fun j _ => by rw [e0]; rfl)]; simp) ha h0
  have el : n + (l.drop n).length = l.toArray.size := by simp; omega
  rw [el] at this
  exact this
def nodst (l : List Oper) (n t : Nat) : Bool := (List.range n).all (fun i => match dstOf l i with | some d => !Nat.beq d t | none => true)
theorem nodst_spec {l : List Oper} {n t : Nat} (h : nodst l n t = true) : ∀ i, i < n → dstOf l i ≠ some t := by
  intro i hi e
  have := List.all_eq_true.1 h i (List.mem_range.2 hi)
  rw [e] at this
  simp at this
/-- What is owed of operation i. -/
def Ob (P : Program) (m : Nat) (l : List Oper) (n : Nat) (F : Nat → Value → Prop) (D : Nat → Value → List Res) (Z : Nat → Prop) (w0 : World) (L : List Res) (ρ0 : Env) (i : Nat) : Prop :=
  ∀ (vals : Nat → Value) (ρ : Env) (w : World) (X : List Res), (∀ j, depOf l i j = true → F j (vals j) ∧ ∀ d, dstOf l j = some d → ρ d = vals j) → (∀ t, nodst l n t = true → ρ t = ρ0 t) → St Z w0 w (L ++ X) →
    match l[i]? with | some o => WL P m l.toArray (oneQ ρ o.dst (fun v w' => F i v ∧ St Z w0 w' (D i v ++ (L ++ X)))) [o] ρ w | none => False
theorem ob0 {p : Nat → Prop} : ∀ i, i < 0 → p i := fun _ h => absurd h (Nat.not_lt_zero _)
theorem obS {p : Nat → Prop} {n : Nat} (h : ∀ i, i < n → p i) (hn : p n) : ∀ i, i < n + 1 → p i := fun i hi => by
  rcases Nat.lt_succ_iff_lt_or_eq.1 hi with h' | rfl
  · exact h i h'
  · exact hn

/-- THE RULE. -/
theorem WC.draw {id : Nat} {ρ0 : Env} {w : World} (n : Nat) (F : Nat → Value → Prop) (D : Nat → Value → List Res) (st : St Z w0 w L) (hm : P.follows .mixedOrders = true) (hB : headB m l n = true)
    (hop : ∀ i, i < n → Ob P m l n F D Z w0 L ρ0 i)
    (hend : ∀ (vals : Nat → Value) (ρ : Env) (w : World), (∀ i, Nat.blt i n = true → F i (vals i) ∧ ∀ d, dstOf l i = some d → ρ d = vals i) → (∀ t, nodst l n t = true → ρ t = ρ0 t) → St Z w0 w (flat D (fun _ => true) vals (List.range n) ++ L) →
      WL P m l.toArray Q (l.drop n) ρ w) : WC P m (.region id l.toArray true) Q ρ0 w := by
  have old : ∀ {ρ : Env}, (∀ t, (∀ i, i < n → dstOf l i ≠ some t) → ρ t = ρ0 t) → ∀ t, nodst l n t = true → ρ t = ρ0 t := fun h t ht => h t (nodst_spec ht)
  refine WC.draw0 n F D st hm hB ?_ (fun vals ρ w h1 h2 h3 => hend vals ρ w (fun i hi => h1 i (by simpa [Nat.blt_eq] using hi)) (old h2) h3)
  intro i o hi ho vals ρ w X hd h0 hst
  have h := hop i hi vals ρ w X hd (old h0) (St.perm List.perm_append_comm hst)
  rw [ho] at h
  change WL P m l.toArray (oneQ ρ o.dst (fun v w' => F i v ∧ St Z w0 w' (D i v ++ (L ++ X)))) [o] ρ w at h
  intro a ha
  have e : (oneQ ρ o.dst (fun v w' => F i v ∧ St Z w0 w' (D i v ++ (L ++ X)))) = (oneQ ρ o.dst (fun v w' => F i v ∧ St Z w0 w' (D i v ++ (X ++ L)))) := by
    funext ex ρ' w'
    apply propext
    constructor
    · rintro ⟨h1, v, h2, h3, h4⟩
      exact ⟨h1, v, h2, h3, St.perm (List.Perm.append_left _ List.perm_append_comm) h4⟩
    · rintro ⟨h1, v, h2, h3, h4⟩
      exact ⟨h1, v, h2, h3, St.perm (List.Perm.append_left _ List.perm_append_comm) h4⟩
  rw [e] at h
  exact h a ha
end
end Go.Eng
namespace Go.Eng
open Go.RowKit

/-- A map of one's own: its entries in the order of their births. -/
def Mp {κ α : Type} (kf : κ → Value) (vf : α → Value) (b : Nat) (m : List (κ × α)) : Res where
  P w S := (∀ k, S k ↔ k = b) ∧ ∃ es clock, w.heap[b]? = some (.map es clock) ∧ es.toList.map (fun e => (e.key, e.val)) = m.map (fun p => (kf p.1, vf p.2)) ∧ (es.toList.map (fun e : MapEntry => e.born)).Pairwise (· < ·) ∧ ∀ e ∈ es.toList, e.born < clock
  loc := fun ⟨h1, es, c, h2, h3⟩ h => ⟨h1, es, c, (h b ((h1 b).2 rfl)).trans h2, h3⟩

def mset {κ α : Type} [DecidableEq κ] (m : List (κ × α)) (k : κ) (v : α) : List (κ × α) :=
  match m.findIdx? (fun p => decide (p.1 = k)) with
  | some j => m.set j (k, v)
  | none => m ++ [(k, v)]
def mget {κ α : Type} [DecidableEq κ] (m : List (κ × α)) (k : κ) : Option α := (m.find? (fun p => decide (p.1 = k))).map (·.2)

theorem findNow_spec {κ α : Type} [DecidableEq κ] {kf : κ → Value} {vf : α → Value} {kind : TypeDesc} (hk : ∀ a b, Instr.sameNow kind (kf a) (kf b) = some (decide (a = b))) (k : κ) :
    ∀ (es : List MapEntry) (m : List (κ × α)) (i0 : Nat), es.map (fun e => (e.key, e.val)) = m.map (fun p => (kf p.1, vf p.2)) →
      Instr.findNow kind (kf k) es i0 = some ((m.findIdx? (fun p => decide (p.1 = k))).map (fun j => (i0 + j, ((m[j]?).map (fun p => vf p.2)).getD undef)))
  | [], [], _, _ => rfl
  | [], _ :: _, _, h => by simp at h
  | _ :: _, [], _, h => by simp at h
  | e :: es, p :: m, i0, h => by
    simp only [List.map_cons, List.cons.injEq, Prod.mk.injEq] at h
    obtain ⟨⟨h1, h2⟩, h3⟩ := h
    simp only [Instr.findNow, h1, hk, List.findIdx?_cons]
    by_cases hp : p.1 = k
    · have e1 : decide (k = p.1) = true := by simp [hp]
      rw [e1]
      simp [hp, h2]
    · have e1 : decide (k = p.1) = false := by simp; exact fun h => hp h.symm
      rw [e1]
      simp only [hp, decide_false, Bool.false_eq_true, if_false]
      rw [findNow_spec hk k es m (i0 + 1) h3]
      cases m.findIdx? (fun p => decide (p.1 = k)) with
      | none => rfl
      | some j => simp; omega
theorem mget_idx {κ α : Type} [DecidableEq κ] (m : List (κ × α)) (k : κ) : mget m k = ((m.findIdx? (fun p => decide (p.1 = k))).bind (fun j => (m[j]?).map (·.2))) := by
  unfold mget
  induction m with
  | nil => rfl
  | cons p m ih =>
    rw [List.find?_cons, List.findIdx?_cons]
    by_cases hp : p.1 = k
    · simp [hp]
    · simp only [hp, decide_false, Bool.false_eq_true, if_false]
      rw [ih]
      cases m.findIdx? (fun p => decide (p.1 = k)) <;> simp

section
variable {P : Program} {ρ : Env} {w : World} {K : Value → World → Prop} {d : Option Tmp} {ty : TypeId} {pos : String} {after : Array Edge} {gd : Option (Nat × Bool)}
variable {Z : Nat → Prop} {w0 : World} {L : List Res}

theorem setObj_heap (w : World) (r : Nat) (o : Obj) (k : Nat) (h : k ≠ r) : (w.heap.setIfInBounds r o)[k]? = w.heap[k]? := by
  rw [Array.getElem?_setIfInBounds_ne (Ne.symm h)]

theorem run_getObj {r : Nat} {es : Array MapEntry} {c : Nat} (h : w.heap[r]? = some (.map es c)) : (getObj r).run P w = .ok (.map es c) w := by
  simp [getObj, Sem.run, h]
theorem run_setObj {r : Nat} {es : Array MapEntry} {c : Nat} {o : Obj} (h : w.heap[r]? = some (.map es c)) : (setObj r o).run P w = .ok () { w with heap := w.heap.setIfInBounds r o } := by
  simp [setObj, Sem.run, h]

/-- What a kind of key must be: plain to compare, now. -/
structure KeyOk (P : Program) {κ : Type} [DecidableEq κ] (kt : TypeId) (kf : κ → Value) : Prop where
  ok : ∃ kind, P.underlying kt = some kind ∧ (∀ a b, Instr.sameNow kind (kf a) (kf b) = some (decide (a = b))) ∧ (∀ (w : World) e n v, (Instr.checkKey e (n + 1) kt (kf v)).run P w = .ok () w) ∧ ∀ a, Instr.sameBits 10000 (kf a) (kf a) = true
theorem keyOk_string {kt : TypeId} (h : P.underlying kt = some .string) : KeyOk P kt Value.string := by
  refine ⟨.string, h, fun a b => ?_, fun w e n v => ?_, fun a => ?_⟩
  · simp only [Instr.sameNow]
    congr 1
    rw [beq_toListBytes, toList_eq_iff]
  · simp [Instr.checkKey, run_underlying h]
  · simp [Instr.sameBits, beq_toListBytes]
theorem keyOk_int {kt : TypeId} {k : IntKind} (h : P.underlying kt = some (.int k)) : KeyOk P kt (Value.int k) := by
  refine ⟨.int k, h, fun a b => ?_, fun w e n v => ?_, fun a => ?_⟩
  · simp only [Instr.sameNow, if_true]
    congr 1
  · simp [Instr.checkKey, run_underlying h]
  · simp [Instr.sameBits]

theorem run_lookup {κ α : Type} [DecidableEq κ] {kf : κ → Value} {vf : α → Value} {t kt et : TypeId} {b i : Nat} {m : List (κ × α)} {z : Value} (st : St Z w0 w L) (hi : L[i]? = some (Mp kf vf b m)) (hk : KeyOk P kt kf) (hu : P.underlying t = some (.map kt et)) (hz : zeroB P et = some z) (k : κ) (ok : Bool) :
    (Instr.lookup t (.map (some b)) (kf k) ok).run P w = .ok (if ok then .tuple #[((mget m k).map vf).getD z, .bool (mget m k).isSome] else ((mget m k).map vf).getD z) w := by
  obtain ⟨S, ⟨hS, es, clock, hb, hm, _⟩, _⟩ := st.focus hi
  obtain ⟨kind, hkd, hs, hc, _⟩ := hk.ok
  have hf := findNow_spec hs k es.toList m 0 hm
  unfold Instr.lookup
  simp only [Sem.run_bind, run_underlying hu, Result.andThen_ok, run_getObj hb, Sem.run_pure, hc _ _ 9999]
  unfold Instr.findKey
  simp only [Sem.run_bind, run_underlying hkd, Result.andThen_ok, hf]
  rw [mget_idx]
  cases h : m.findIdx? (fun p => decide (p.1 = k)) with
  | none => simp [run_zeroValue hz]
  | some j =>
    have hj : j < m.length := (List.findIdx?_eq_some_iff_getElem.1 h).1
    simp [List.getElem?_eq_getElem hj]
theorem OpT.lookup {κ α : Type} [DecidableEq κ] {kf : κ → Value} {vf : α → Value} {t kt et : TypeId} {x y : Operand} {b : Nat} {m : List (κ × α)} {z : Value} (st : St Z w0 w L) (i : Nat) (hi : L[i]? = some (Mp kf vf b m)) (hk : KeyOk P kt kf) (hu : P.underlying t = some (.map kt et)) (hz : zeroB P et = some z) (k : κ)
    (hx : evO ρ x = .map (some b)) (hy : evO ρ y = kf k) (hK : K (((mget m k).map vf).getD z) w) : OpT P ⟨d, .lookup t x y false, ty, pos, after, gd⟩ ρ w K :=
  OpT.val (v := ((mget m k).map vf).getD z) (by simp only [execOp, hx, hy, Sem.run_bind, run_lookup st hi hk hu hz k false, Result.andThen_ok, Sem.run_pure]; rfl) hK
theorem OpT.lookupOk {κ α : Type} [DecidableEq κ] {kf : κ → Value} {vf : α → Value} {t kt et : TypeId} {x y : Operand} {b : Nat} {m : List (κ × α)} {z : Value} (st : St Z w0 w L) (i : Nat) (hi : L[i]? = some (Mp kf vf b m)) (hk : KeyOk P kt kf) (hu : P.underlying t = some (.map kt et)) (hz : zeroB P et = some z) (k : κ)
    (hx : evO ρ x = .map (some b)) (hy : evO ρ y = kf k) (hK : K (.tuple #[((mget m k).map vf).getD z, .bool (mget m k).isSome]) w) : OpT P ⟨d, .lookup t x y true, ty, pos, after, gd⟩ ρ w K :=
  OpT.val (v := .tuple #[((mget m k).map vf).getD z, .bool (mget m k).isSome]) (by simp only [execOp, hx, hy, Sem.run_bind, run_lookup st hi hk hu hz k true, Result.andThen_ok, Sem.run_pure]; rfl) hK

theorem OpT.mapSet {κ α : Type} [DecidableEq κ] {kf : κ → Value} {vf : α → Value} {t kt et : TypeId} {x y u : Operand} {b : Nat} {m : List (κ × α)} (st : St Z w0 w L) (i : Nat) (hi : L[i]? = some (Mp kf vf b m)) (hk : KeyOk P kt kf) (hu : P.underlying t = some (.map kt et)) (k : κ) (v : α)
    (hx : evO ρ x = .map (some b)) (hy : evO ρ y = kf k) (hv : evO ρ u = vf v) (hK : ∀ w', St Z w0 w' (L.set i (Mp kf vf b (mset m k v))) → K undef w') : OpT P ⟨d, .mapUpdate t x y u, ty, pos, after, gd⟩ ρ w K := by
  obtain ⟨S, ⟨hS, es, clock, hb, hm, hp, hc⟩, hlt, H⟩ := st.focus hi
  obtain ⟨kind, hkd, hs, hck, hsb⟩ := hk.ok
  have hf := findNow_spec hs k es.toList m 0 hm
  have fin : ∀ es' c', es'.toList.map (fun e => (e.key, e.val)) = (mset m k v).map (fun p => (kf p.1, vf p.2)) → (es'.toList.map (fun e : MapEntry => e.born)).Pairwise (· < ·) → (∀ e ∈ es'.toList, e.born < c') →
      St Z w0 { w with heap := w.heap.setIfInBounds b (.map es' c') } (L.set i (Mp kf vf b (mset m k v))) := by
    intro es' c' h1 h2 h3
    have hbl : b < w.heap.size := (Array.getElem?_eq_some_iff.1 hb).1
    refine H _ _ S rfl rfl rfl (by simp) (fun j hj hn => setObj_heap w b _ j (fun e => hn ((hS j).2 e))) ⟨hS, es', c', by simp [hbl], h1, h2, h3⟩ (fun j hj => ⟨by simpa using (hlt j hj).1, .inl hj⟩)
  cases h : m.findIdx? (fun p => decide (p.1 = k)) with
  | none =>
    rw [h] at hf
    have hms : mset m k v = m ++ [(k, v)] := by simp [mset, h]
    refine OpT.skp (w' := { w with heap := w.heap.setIfInBounds b (.map (es.push { key := kf k, val := vf v, born := clock }) (clock + 1)) }) ?_ (hK _ (fin _ _ ?_ ?_ ?_))
    · simp only [execOp, hx, hy, hv, Instr.mapUpdate, Sem.run_bind, run_underlying hu, Result.andThen_ok, run_getObj hb, hck _ _ 9999, Instr.findKey, run_underlying hkd, hf, Option.map_none, Sem.run_pure, run_setObj hb]
    · rw [hms]; simp [hm]
    · simp only [Array.toList_push, List.map_append, List.map_cons, List.map_nil]
      rw [List.pairwise_append]
      refine ⟨hp, by simp, ?_⟩
      intro a ha c hc'
      obtain ⟨e, he, rfl⟩ := List.mem_map.1 ha
      simp at hc'
      subst hc'
      exact hc e he
    · intro e he
      simp only [Array.toList_push, List.mem_append, List.mem_singleton] at he
      rcases he with he | rfl
      · have := hc e he; omega
      · simp
  | some j =>
    rw [h] at hf
    obtain ⟨hj, hpj, _⟩ := List.findIdx?_eq_some_iff_getElem.1 h
    have hms : mset m k v = m.set j (k, v) := by simp [mset, h]
    have hel : es.toList.length = m.length := by simpa using congrArg List.length hm
    have hje : j < es.size := by simpa using (by omega : j < es.toList.length)
    have hkey : (es[j]).key = kf k := by
      have h1 := congrArg (fun l => l[j]?) hm
      have hkk : m[j].1 = k := by simpa using hpj
      simp [List.getElem?_eq_getElem hj, hje] at h1
      rw [h1.1, hkk]
    refine OpT.skp (w' := { w with heap := w.heap.setIfInBounds b (.map (es.modify j fun e => { e with key := kf k, val := vf v }) clock) }) ?_ (hK _ (fin _ _ ?_ ?_ ?_))
    · simp only [execOp, hx, hy, hv, Instr.mapUpdate, Sem.run_bind, run_underlying hu, Result.andThen_ok, run_getObj hb, hck _ _ 9999, Instr.findKey, run_underlying hkd, hf, Option.map_some, Sem.run_pure, Nat.zero_add]
      simp only [Array.getElem?_eq_getElem hje, Option.map_some, Option.getD_some, hkey, Instr.keyThatStays, hsb, if_true, Sem.run_pure, Result.andThen_ok, run_setObj hb]
    · rw [hms]
      apply List.ext_getElem?
      intro n
      have hn := congrArg (fun l => l[n]?) hm
      simp only [List.getElem?_map] at hn
      simp only [Array.toList_modify, List.getElem?_map, List.getElem?_modify, List.getElem?_set]
      by_cases hnj : j = n
      · subst hnj
        simp [hje, hj]
      · simp only [hnj, if_false]
        rw [← hn]
        simp
    · have : (es.modify j fun e => { e with key := kf k, val := vf v }).toList.map (fun e : MapEntry => e.born) = es.toList.map (fun e : MapEntry => e.born) := by
        apply List.ext_getElem?
        intro n
        simp only [Array.toList_modify, List.getElem?_map, List.getElem?_modify]
        cases es.toList[n]? with
        | none => rfl
        | some e => by_cases hnj : j = n <;> simp [hnj]
      rw [this]; exact hp
    · intro e he
      rw [Array.toList_modify] at he
      obtain ⟨n, hn, rfl⟩ := List.getElem_of_mem he
      simp only [List.length_modify] at hn
      rw [List.getElem_modify]
      have := hc es.toList[n] (List.getElem_mem _)
      split
      · exact this
      · exact this
theorem OpT.makeMap {κ α : Type} (kf : κ → Value) (vf : α → Value) {t : TypeId} (st : St Z w0 w L) (hK : ∀ b w', St Z w0 w' (Mp kf vf b [] :: L) → K (.map (some b)) w') : OpT P ⟨d, .makeMap t none, ty, pos, after, gd⟩ ρ w K := by
  refine OpT.val (v := .map (some w.heap.size)) (w' := w.alloc (.map #[] 0)) (by simp [execOp, Instr.makeMap]) (hK _ _ ?_)
  exact st.cons (below_alloc w _) _ (fun k => k = w.heap.size) ⟨fun _ => Iff.rfl, #[], 0, heap_alloc_new w _, rfl, by simp, by simp⟩ (fun k hk => by subst hk; simp)

/-! type switches -/
theorem OpT.tassT {x : Operand} {xt at_ : TypeId} (v : Value) (hb : (match P.underlying at_ with | some (.interface _) => false | some _ => true | none => false) = true) (hx : evO ρ x = .iface at_ v) (hK : K (.tuple #[v, .bool true]) w) : OpT P ⟨d, .typeAssert x xt at_ true, ty, pos, after, gd⟩ ρ w K := by
  refine OpT.val (v := .tuple #[v, .bool true]) ?_ hK
  split at hb
  · cases hb
  · rename_i dd hne hd
    simp only [execOp, Instr.typeAssert, hx, Sem.run_bind, run_underlying hd, Result.andThen_ok]
    cases dd <;> first | (simp; done) | exact absurd rfl (hne _)
  · cases hb
theorem OpT.tassF {x : Operand} {xt at_ : TypeId} {z : Value} (t : TypeId) (v : Value) (hb : (match P.underlying at_ with | some (.interface _) => false | some _ => true | none => false) = true) (hz : zeroB P at_ = some z) (hne : Nat.beq t at_ = false) (hx : evO ρ x = .iface t v) (hK : K (.tuple #[z, .bool false]) w) : OpT P ⟨d, .typeAssert x xt at_ true, ty, pos, after, gd⟩ ρ w K := by
  have hne' : ¬ t = at_ := fun e => by subst e; rw [Nat.beq_refl] at hne; cases hne
  refine OpT.val (v := .tuple #[z, .bool false]) ?_ hK
  split at hb
  · cases hb
  · rename_i dd hn hd
    simp only [execOp, Instr.typeAssert, hx, Sem.run_bind, run_underlying hd, Result.andThen_ok]
    cases dd <;> first | (simp [hne', run_zeroValue hz]; done) | exact absurd rfl (hn _)
  · cases hb

theorem RowZ.part {ad : Addr} {cs : List Value} (h : RowZ Z w0 ad cs) (k n : Nat) : RowZ Z w0 (ad.add k) ((cs.drop k).take n) := fun w' hw => (h w' hw).part k n
/-- A block is frozen for a while. -/
theorem St.freezeB {b : Nat} {t : TypeId} {cs : List Value} (st : St Z w0 w (Blk b t cs :: L)) : ∃ Z', (∀ k, Z k → Z' k) ∧ (∀ k, Z k → w.heap[k]? = w0.heap[k]?) ∧ RowZ Z' w ⟨b, 0, none⟩ cs ∧ St Z' w w L ∧ ∀ w' L', St Z' w w' L' → St Z w0 w' (Blk b t cs :: L') := by
  obtain ⟨S, ⟨hS, hb⟩, h1, h2⟩ := st.freeze
  refine ⟨_, fun k h => .inl h, st.old, fun w' hw => ?_, h1, h2⟩
  exact RowAt.blk (t := t) (fr := (0, 0)) ((hw b (.inr ((hS b).2 rfl))).trans hb)
end
end Go.Eng
namespace Go.Eng
open Go.RowKit
def bk : Value → Nat
  | .slice (some a) _ _ => a.block
  | .pointer (some a) => a.block
  | .map (some b) => b
  | _ => 0
section
variable {P : Program} {ρ : Env} {w : World} {K : Value → World → Prop} {d : Option Tmp} {ty : TypeId} {pos : String} {after : Array Edge} {gd : Option (Nat × Bool)}
variable {Z : Nat → Prop} {w0 : World} {L : List Res}
theorem row_form {e sz n : Nat} {v : Value} {cs : List Value} (h : w.ownsRow 0 e sz v n cs) : ∃ A c, v = .slice A n c := by
  rcases h.2 with ⟨rfl, rfl⟩ | ⟨g, cap, cur, rfl, _⟩
  · exact ⟨_, _, rfl⟩
  · exact ⟨_, _, rfl⟩
theorem St.rowOne (st : St Z w0 w L) {i e sz n : Nat} {v : Value} {cs : List Value} (hi : L[i]? = some (Row e sz v n cs)) : v.oneCell' = true := by
  obtain ⟨A, c, rfl⟩ := row_form (st.row hi); rfl
theorem St.rowCel (st : St Z w0 w L) {i e sz n : Nat} {v : Value} {cs : List Value} (hi : L[i]? = some (Row e sz v n cs)) : v.cells = #[v] := by
  obtain ⟨A, c, rfl⟩ := row_form (st.row hi); rfl
theorem OpT.lenRow {t e e' sz n : Nat} {x : Operand} {tys : Array TypeId} {v : Value} {cs : List Value} (st : St Z w0 w L) (i : Nat) (hi : L[i]? = some (Row e' sz v n cs)) (ht : tys[0]? = some t) (hu : P.underlying t = some (.slice e)) (hx : evO ρ x = v) (hK : K (.int .i64 n) w) :
    OpT P ⟨d, .call ⟨.builtin .len, #[x], tys⟩, ty, pos, after, gd⟩ ρ w K := by
  obtain ⟨A, c, rfl⟩ := row_form (st.row hi)
  exact OpT.lenS A n c ht hu hx hK
theorem OpT.lookupI {κ : Type} [DecidableEq κ] {kf : κ → Value} {ik : IntKind} {t kt et : TypeId} {x y : Operand} {b : Nat} {m : List (κ × Int)} (st : St Z w0 w L) (i : Nat) (hi : L[i]? = some (Mp kf (Value.int ik) b m)) (hk : KeyOk P kt kf) (hu : P.underlying t = some (.map kt et)) (hz : zeroB P et = some (.int ik 0)) (k : κ)
    (hx : evO ρ x = .map (some b)) (hy : evO ρ y = kf k) (hK : K (.int ik ((mget m k).getD 0)) w) : OpT P ⟨d, .lookup t x y false, ty, pos, after, gd⟩ ρ w K := by
  refine OpT.lookup st i hi hk hu hz k hx hy ?_
  cases h : mget m k <;> simpa [h] using hK
/-- A row of one's own as data that is read. -/
theorem Rl.sl_row {α : Type} (r : Rl α) {S : Nat → Prop} {e sz n : Nat} {v : Value} {cs : List Value} {xs : List α} (h : w.ownsRow 0 e sz v n cs) (hS : ∀ k, v.ownBlock = some k → S k) (hn : n = xs.length) (hsz : sz = r.sz) (hl : n ≤ 140737488355328)
    (hr : ∀ i x, xs[i]? = some x → r.R S w ((cs.drop (i * sz)).take sz) x) : r.sl S w v xs := by
  subst hn; subst hsz
  rcases h.2 with ⟨rfl, h0⟩ | ⟨g, cap, cur, rfl, _, hh, hc1, hc2, hc3, hc4⟩
  · exact ⟨none, 0, by rw [h0], hl, fun i x hx => by
      have : i < xs.length := (List.getElem?_eq_some_iff.1 hx).1
      omega⟩
  · refine ⟨some ⟨g, 0, none⟩, cap, rfl, hl, fun i x hx => ⟨⟨g, 0, none⟩, _, rfl, ?_, hr i x hx⟩⟩
    intro w' hw
    have hg : w'.heap[g]? = some (.cells cur e (0, 0)) := (hw g (hS g rfl)).trans hh
    have h1 : RowAt w' ⟨g, 0, none⟩ cs := by
      intro j u hu
      rw [Addr.add_lit, Nat.zero_add, cell_of_row w' g j cur e (0, 0) hg]
      rw [← hc4, List.getElem?_take] at hu
      split at hu
      · simpa using hu
      · cases hu
    exact h1.part _ _
end
end Go.Eng
namespace Go.Eng
open Go.RowKit
section
variable {Z : Nat → Prop} {w0 w : World} {L : List Res}
theorem St.rowNil (e sz : Nat) (st : St Z w0 w L) : St Z w0 w (Row e sz (.slice none 0 0) 0 [] :: L) :=
  st.cons (Below.refl _ _) _ (fun _ => False) ⟨fun k => by simp [Value.ownBlock], World.ownsRow_nil _ _ _ _⟩ (fun _ h => h.elim)
/-- Strings. -/
def rStr : Rl ByteArray where
  sz := 1
  R _ _ cs x := cs = [.string x]
  len h := by rw [h]; rfl
  mono h _ _ := h
/-- One's own row of strings is frozen for a while: it can be read. -/
theorem St.freezeStr {e : TypeId} {v : Value} {xs : List ByteArray} (st : St Z w0 w (Row e 1 v xs.length (xs.map Value.string) :: L)) (hl : xs.length < 1073741824) : ∃ Z', (∀ k, Z k → Z' k) ∧ (∀ k, Z k → w.heap[k]? = w0.heap[k]?) ∧ rStr.sl Z' w v xs ∧ St Z' w w L ∧ ∀ w' L', St Z' w w' L' → St Z w0 w' (Row e 1 v xs.length (xs.map Value.string) :: L') := by
  obtain ⟨S, ⟨hS, hr⟩, h1, h2⟩ := st.freeze
  refine ⟨_, fun k h => .inl h, st.old, ?_, h1, h2⟩
  refine Rl.sl_row rStr hr (fun k hk => .inr ((hS k).2 hk)) rfl rfl (by omega) ?_
  intro i x hx
  show _ = [Value.string x]
  rw [Nat.mul_one, List.take_one, List.head?_drop, List.getElem?_map, hx]
  rfl
theorem fresh_str {b : Nat} {x : ByteArray} (h : RowZ Z w0 ⟨b, 0, none⟩ [.string x]) : rStr.sl Z w0 (.slice (some ⟨b, 0, none⟩) 1 1) [x] := by
  refine ⟨some ⟨b, 0, none⟩, 1, rfl, by simp, fun i y hy => ?_⟩
  cases i with
  | zero => cases hy; exact ⟨⟨b, 0, none⟩, _, rfl, h, rfl⟩
  | succ i => simp at hy
end
end Go.Eng
namespace Go.Eng
open Go.RowKit
theorem caF {f m c a : List Value} (h : [] ++ m ++ c = a ++ c) : f ++ m ++ c = f ++ (a ++ c) := by
  rw [List.append_assoc, ← h]; simp
def Ext (Z : Nat → Prop) (w0 : World) (Z' : Nat → Prop) (w1 : World) : Prop := (∀ k, Z k → Z' k) ∧ (∀ k, Z k → w1.heap[k]? = w0.heap[k]?) ∧ ∀ w' L', St Z' w1 w' L' → St Z w0 w' L'
theorem Ext.refl (Z : Nat → Prop) (w0 : World) : Ext Z w0 Z w0 := ⟨fun _ h => h, fun _ _ => rfl, fun _ _ h => h⟩
theorem Ext.trans {Z Z1 Z2 : Nat → Prop} {w0 w1 w2 : World} (h : Ext Z w0 Z1 w1) (g : Ext Z1 w1 Z2 w2) : Ext Z w0 Z2 w2 :=
  ⟨fun k hk => g.1 k (h.1 k hk), fun k hk => (g.2.1 k (h.1 k hk)).trans (h.2.1 k hk), fun w' L' st => h.2.2 w' L' (g.2.2 w' L' st)⟩
theorem Ext.sl {α : Type} {r : Rl α} {Z Z1 : Nat → Prop} {w0 w1 : World} {v : Value} {xs : List α} (h : Ext Z w0 Z1 w1) (g : r.sl Z w0 v xs) : r.sl Z1 w1 v xs := Rl.sl_mono g h.1 h.2.1
theorem Ext.R {α : Type} {r : Rl α} {Z Z1 : Nat → Prop} {w0 w1 : World} {cs : List Value} {x : α} (h : Ext Z w0 Z1 w1) (g : r.R Z w0 cs x) : r.R Z1 w1 cs x := r.mono g h.1 h.2.1
theorem Ext.back {Z Z1 : Nat → Prop} {w0 w1 w' : World} {L : List Res} (h : Ext Z w0 Z1 w1) (st : St Z1 w1 w' L) : St Z w0 w' L := h.2.2 _ _ st
section
variable {Z : Nat → Prop} {w0 w : World} {L : List Res}
/-- The rest, when the first piece is let go. -/
theorem St.tl {r : Res} (st : St Z w0 w (r :: L)) : St Z w0 w L := by
  obtain ⟨S, _, _, h2⟩ := st.freeze
  rename_i h1
  exact (St.selT [r] [] rfl (by decide) st)
/-- One's own row of data is frozen for good: it can be read. -/
theorem St.freezeRow {α : Type} {r : Rl α} {e : TypeId} {v : Value} {xs : List α} {cs : List Value} (st : St Z w0 w (Row e r.sz v xs.length cs :: L)) (hl : xs.length < 1073741824) (hr : ∀ i x, xs[i]? = some x → r.R Z w0 ((cs.drop (i * r.sz)).take r.sz) x) : ∃ Z', Ext Z w0 Z' w ∧ r.sl Z' w v xs ∧ St Z' w w L := by
  obtain ⟨S, ⟨hS, ho⟩, h1, h2⟩ := st.freeze
  refine ⟨_, ⟨fun k h => .inl h, st.old, fun w' L' h => (h2 w' L' h).tl⟩, ?_, h1⟩
  exact Rl.sl_row r ho (fun k hk => .inr ((hS k).2 hk)) rfl rfl (by omega) (fun i x hx => r.mono (hr i x hx) (fun k h => .inl h) st.old)
/-- The cells of a row, element by element. -/
def RowsOf {α : Type} (P : List Value → α → Prop) (sz : Nat) (cs : List Value) (xs : List α) : Prop := cs.length = xs.length * sz ∧ ∀ i x, xs[i]? = some x → P ((cs.drop (i * sz)).take sz) x
theorem RowsOf.nil {α : Type} {P : List Value → α → Prop} {sz : Nat} : RowsOf P sz [] [] := ⟨by simp, fun i x h => by simp at h⟩
theorem RowsOf.snoc {α : Type} {P : List Value → α → Prop} {sz : Nat} {cs ls : List Value} {xs : List α} {q : α} (h : RowsOf P sz cs xs) (hl : ls.length = sz) (hq : P ls q) : RowsOf P sz (cs ++ ls) (xs ++ [q]) := by
  refine ⟨by simp [h.1, hl, Nat.add_mul], fun i x hx => ?_⟩
  rcases Nat.lt_trichotomy i xs.length with hi | hi | hi
  · rw [List.getElem?_append_left hi] at hx
    have h1 := h.2 i x hx
    have h2 : (i + 1) * sz ≤ xs.length * sz := Nat.mul_le_mul_right _ hi
    rw [Nat.add_mul, Nat.one_mul] at h2
    rw [List.drop_append_of_le_length (by rw [h.1]; omega), List.take_append_of_le_length (by rw [List.length_drop, h.1]; omega)]
    exact h1
  · subst hi
    simp at hx; subst hx
    rw [← h.1, List.drop_left, List.take_of_length_le (by omega)]
    exact hq
  · rw [List.getElem?_eq_none (by simp; omega)] at hx; cases hx
theorem RowsOf.ext {α : Type} {r : Rl α} {Z Z1 : Nat → Prop} {w0 w1 : World} {sz : Nat} {cs : List Value} {xs : List α} (h : Ext Z w0 Z1 w1) (g : RowsOf (r.R Z w0) sz cs xs) : RowsOf (r.R Z1 w1) sz cs xs := ⟨g.1, fun i x hx => h.R (g.2 i x hx)⟩
theorem str_at {xs : List ByteArray} (i : Nat) (x : ByteArray) (hx : xs[i]? = some x) : rStr.R Z w0 (((xs.map Value.string).drop (i * rStr.sz)).take rStr.sz) x := by
  show List.take 1 (List.drop (i * 1) _) = [Value.string x]
  rw [Nat.mul_one, List.take_one, List.head?_drop, List.getElem?_map, hx]
  rfl
end
end Go.Eng
namespace Go.Eng
open Go.RowKit
def ancB (l : List Oper) : Nat → Nat → Nat → Bool
  | 0, _, _ => false
  | f + 1, i, j => depOf l i j || (List.range i).any (fun k => depOf l i k && ancB l f k j)
section
variable {P : Program} {m n : Nat} {l : List Oper} {Q : QP} {Z : Nat → Prop} {w0 : World} {L : List Res}
theorem listed_lt {listed : Array Bool} (inv : HeadInv .any l.toArray n listed) {j : Nat} (h : listed.getD j false = true) : j < n := by
  rcases Nat.lt_or_ge j n with h1 | h1
  · exact h1
  · exfalso
    rcases Nat.lt_or_ge j listed.size with h2 | h2
    · have h3 := inv.tail j h1 (by rw [← inv.size]; exact h2)
      simp [h2] at h h3
      rw [h] at h3; cases h3
    · simp [Array.getElem?_eq_none h2] at h
theorem dep_listed {listed : Array Bool} {i : Nat} {o : Oper} (ho : l[i]? = some o) (hd : ∀ e ∈ o.after, Region.binds .any e = true → listed.getD e.on false = true) {j : Nat} (h : depOf l i j = true) : listed.getD j false = true := by
  unfold depOf at h
  rw [ho] at h
  obtain ⟨e, he, hb⟩ := List.any_eq_true.1 h
  have he := Array.mem_toList_iff.1 he
  simp only [Bool.and_eq_true, beq_iff_eq] at hb
  have := hd e he hb.1
  rw [hb.2] at this
  exact this
theorem anc_listed {listed : Array Bool} (inv : HeadInv .any l.toArray n listed) : ∀ (f i : Nat) (o : Oper), l[i]? = some o → (∀ e ∈ o.after, Region.binds .any e = true → listed.getD e.on false = true) → ∀ j, ancB l f i j = true → listed.getD j false = true := by
  intro f
  induction f with
  | zero => intro i o _ _ j h; cases h
  | succ f ih =>
    intro i o ho hd j h
    simp only [ancB, Bool.or_eq_true] at h
    rcases h with h | h
    · exact dep_listed ho hd h
    · obtain ⟨k, _, hk⟩ := List.any_eq_true.1 h
      simp only [Bool.and_eq_true] at hk
      have hlk := dep_listed ho hd hk.1
      obtain ⟨ok, hok⟩ : ∃ ok, l[k]? = some ok := by
        have hsz : listed.size = l.length := by rw [inv.size]; simp
        rcases Nat.lt_or_ge k l.length with h | h
        · exact ⟨_, List.getElem?_eq_getElem h⟩
        · rw [Array.getD_eq_getD_getElem?, Array.getElem?_eq_none (by omega)] at hlk; cases hlk
      exact ih k ok hok (fun e he hb => inv.closed k ok (by simpa using hok) hlk e he hb) j hk.2
theorem DInv.conv {F F' : Nat → Value → Prop} {D D' : Nat → Value → List Res} {ρ0 : Env} {listed : Array Bool} {vals : Nat → Value} {ρ : Env} {w : World} (I : DInv m l n Z w0 L F D ρ0 listed vals ρ w)
    (hF : ∀ j, j < n → listed.getD j false = true → F j (vals j) → F' j (vals j)) (hD : ∀ j, j < n → listed.getD j false = true → D j (vals j) = D' j (vals j)) : DInv m l n Z w0 L F' D' ρ0 listed vals ρ w := by
  refine ⟨I.inv, fun i hi hl => ⟨hF i hi hl (I.val i hi hl).1, (I.val i hi hl).2⟩, I.old, ?_⟩
  have e : flat D' (fun i => listed.getD i false) vals (List.range n) = flat D (fun i => listed.getD i false) vals (List.range n) := by
    have key : ∀ is : List Nat, (∀ j ∈ is, j < n) → flat D' (fun i => listed.getD i false) vals is = flat D (fun i => listed.getD i false) vals is := by
      intro is
      induction is with
      | nil => intro _; rfl
      | cons j js ih =>
        intro h
        simp only [flat, List.flatMap_cons] at ih ⊢
        rw [ih (fun k hk => h k (by simp [hk]))]
        by_cases hl : listed.getD j false = true
        · rw [if_pos hl, if_pos hl, hD j (h j (by simp)) hl]
        · rw [if_neg hl, if_neg hl]
    exact key _ (fun j hj => List.mem_range.1 hj)
  rw [e]
  exact I.st
theorem drawV_any {F : Nat → (Nat → Value) → Value → Prop} {D : Nat → (Nat → Value) → Value → List Res} {ρ0 : Env} {Q : QP} (hB : headB m l n = true) (hFc : ∀ i vals vals' v, i < n → (∀ j, ancB l n i j = true → vals j = vals' j) → F i vals v → F i vals' v) (hDc : ∀ i vals vals' v, i < n → (∀ j, ancB l n i j = true → vals j = vals' j) → D i vals v = D i vals' v)
    (hop : ∀ i o, i < n → l[i]? = some o → ∀ (vals : Nat → Value) (ρ : Env) (w : World) (X : List Res), (∀ j, ancB l n i j = true → F j vals (vals j) ∧ ∀ d, dstOf l j = some d → ρ d = vals j) → (∀ t, (∀ i, i < n → dstOf l i ≠ some t) → ρ t = ρ0 t) → St Z w0 w (X ++ L) →
      WL P m l.toArray (oneQ ρ o.dst (fun v w' => F i vals v ∧ St Z w0 w' (D i vals v ++ (X ++ L)))) [o] ρ w)
    (hend : ∀ (vals : Nat → Value) (ρ : Env) (w : World), (∀ i, i < n → F i vals (vals i) ∧ ∀ d, dstOf l i = some d → ρ d = vals i) → (∀ t, (∀ i, i < n → dstOf l i ≠ some t) → ρ t = ρ0 t) → St Z w0 w (flat (fun i v => D i vals v) (fun _ => true) vals (List.range n) ++ L) →
      WL P m l.toArray Q (l.drop n) ρ w) :
    ∀ (k : Nat) (listed : Array Bool) (vals : Nat → Value) (ρ : Env) (w : World) (a : Act), ((List.range n).filter (fun i => !listed.getD i false)).length = k → Fr a m ρ → DInv m l n Z w0 L (fun i v => F i vals v) (fun i v => D i vals v) ρ0 listed vals ρ w →
      wpAny P .any l.toArray (lft m Q) (k + (l.drop n).length) listed a w := by
  intro k
  induction k with
  | zero =>
    intro listed vals ρ w a hk ha I
    have hall : ∀ i, i < n → listed.getD i false = true := by
      intro i hi
      have := List.length_eq_zero_iff.1 hk
      have h2 := List.filter_eq_nil_iff.1 this i (List.mem_range.2 hi)
      simpa using h2
    have hB' := hB
    simp only [headB, Bool.and_eq_true] at hB'
    obtain ⟨⟨⟨⟨h1, _⟩, _⟩, _⟩, h5⟩ := hB'
    have hnl : n ≤ l.length := by simpa [Nat.ble_eq] using h1
    have hsz : listed.size = l.length := by rw [I.inv.size]; simp
    have hcan : listed = ((List.range l.length).map (fun j => Nat.blt j n)).toArray := by
      apply Array.ext
      · simp [hsz]
      · intro j hj hj2
        have hjl : j < l.length := by omega
        simp only [List.getElem_toArray, List.getElem_map, List.getElem_range]
        by_cases hjn : j < n
        · have := hall j hjn
          have e : Nat.blt j n = true := by simpa [Nat.blt_eq] using hjn
          rw [e]
          simpa [hj] using this
        · have := I.inv.tail j (by omega) (by simpa using hjl)
          have e : Nat.blt j n = false := by
            cases hb : Nat.blt j n
            · rfl
            · simp [Nat.blt_eq] at hb; omega
          rw [e]
          simpa [hj] using this
    rw [Nat.zero_add]
    refine wpAny_of_seq (l.drop n) n listed a w (fun j => by simp [List.getElem?_drop]) (by rw [hcan]; exact h5) ?_
    refine hend vals ρ w (fun i hi => I.val i hi (hall i hi)) I.old ?_ a ha
    have e : flat (fun i v => D i vals v) (fun i => listed.getD i false) vals (List.range n) = flat (fun i v => D i vals v) (fun _ => true) vals (List.range n) := flat_same (fun j hj => ⟨hall j (List.mem_range.1 hj), rfl⟩)
    rw [← e]
    exact I.st
  | succ k ih =>
    intro listed vals ρ w a hk ha I
    have hun : ∃ i, i < n ∧ listed.getD i false = false := by
      have : 0 < ((List.range n).filter (fun i => !listed.getD i false)).length := by omega
      obtain ⟨i, hi⟩ := List.exists_mem_of_length_pos this
      obtain ⟨h1, h2⟩ := List.mem_filter.1 hi
      exact ⟨i, List.mem_range.1 h1, by simpa using h2⟩
    obtain ⟨⟨i0, hi0⟩, hlt⟩ := dinv_ready hB I hun
    rw [show k + 1 + (l.drop n).length = (k + (l.drop n).length) + 1 by omega]
    refine ⟨fun h => (by rw [h] at hi0; cases hi0), fun i hi => ?_⟩
    have hin := hlt i hi
    obtain ⟨hiu, o, ho, hdeps⟩ := mem_ready.1 hi
    have ho' : l[i]? = some o := by simpa using ho
    refine wpOp_of_WL ho ha (hop i o hin ho' vals ρ w (flat (fun i v => D i vals v) (fun i => listed.getD i false) vals (List.range n)) ?_ I.old I.st) ?_
    · intro j hj
      have hlj := anc_listed I.inv (n) i o ho' hdeps j hj
      exact I.val j (listed_lt I.inv hlj) hlj
    · rintro v a' w' hf ⟨hF, hst⟩
      have hd : o.dst = dstOf l i := by simp [dstOf, ho']
      rw [hd] at hf
      have hiu0 : listed.getD i false = false := getD_both hiu
      have same : ∀ j, j < n → (listed.setIfInBounds i true).getD j false = true → ∀ k, ancB l n j k = true → vals k = (fun q => if q = i then v else vals q) k := by
        intro j hj hl k hk
        have hlk : listed.getD k false = true := by
          by_cases hji : j = i
          · subst hji; exact anc_listed I.inv n j o ho' hdeps k hk
          · rw [getD_set_ne false (Ne.symm hji)] at hl
            obtain ⟨oj, hoj⟩ : ∃ oj, l[j]? = some oj := by
              have hsz : listed.size = l.length := by rw [I.inv.size]; simp
              rcases Nat.lt_or_ge j l.length with h | h
              · exact ⟨_, List.getElem?_eq_getElem h⟩
              · rw [Array.getD_eq_getD_getElem?, Array.getElem?_eq_none (by omega)] at hl; cases hl
            exact anc_listed I.inv n j oj hoj (fun e he hb => I.inv.closed j oj (by simpa using hoj) hl e he hb) k hk
        have : k ≠ i := fun h => by rw [h, hiu0] at hlk; cases hlk
        simp [this]
      refine ih (listed.setIfInBounds i true) _ _ w' a' ?_ hf (DInv.conv (dinv_step (F := fun i v => F i vals v) (D := fun i v => D i vals v) hB I hin hi hF hst) (fun j hj hl h => hFc j _ _ _ hj (same j hj hl) h) (fun j hj hl => hDc j _ _ _ hj (same j hj hl)))
      have hset : ∀ j, j ≠ i → (listed.setIfInBounds i true).getD j false = listed.getD j false := fun j hj => getD_set_ne false (Ne.symm hj)
      have hii : (listed.setIfInBounds i true).getD i false = true := by
        have hil : i < listed.size := by
          rcases Nat.lt_or_ge i listed.size with h | h
          · exact h
          · simp [Array.getElem?_eq_none h] at hiu
        simp [hil]
      have key : ∀ is : List Nat, is.Nodup → i ∈ is → (is.filter (fun j => !(listed.setIfInBounds i true).getD j false)).length + 1 = (is.filter (fun j => !listed.getD j false)).length := by
        intro is
        induction is with
        | nil => intro _ h; cases h
        | cons j js ihj =>
          intro hn hm
          have hnd := List.nodup_cons.1 hn
          by_cases hji : j = i
          · subst hji
            have e : js.filter (fun k => !(listed.setIfInBounds j true).getD k false) = js.filter (fun k => !listed.getD k false) := List.filter_congr (fun k hk => by
              have : k ≠ j := fun h => hnd.1 (h ▸ hk)
              rw [hset k this])
            rw [List.filter_cons, List.filter_cons, hii, getD_both hiu, e]
            simp
          · have hm' : i ∈ js := by
              rcases List.mem_cons.1 hm with h | h
              · exact absurd h.symm hji
              · exact h
            have := ihj hnd.2 hm'
            rw [List.filter_cons, List.filter_cons, hset j hji]
            split
            · rw [List.length_cons, List.length_cons, ← this]
            · exact this
      have := key (List.range n) List.nodup_range (List.mem_range.2 hin)
      omega

theorem WC.drawV0 {id : Nat} {ρ0 : Env} {w : World} (n : Nat) (F : Nat → (Nat → Value) → Value → Prop) (D : Nat → (Nat → Value) → Value → List Res) (st : St Z w0 w L) (hm : P.follows .mixedOrders = true) (hB : headB m l n = true) (hFc : ∀ i vals vals' v, i < n → (∀ j, ancB l n i j = true → vals j = vals' j) → F i vals v → F i vals' v) (hDc : ∀ i vals vals' v, i < n → (∀ j, ancB l n i j = true → vals j = vals' j) → D i vals v = D i vals' v)
    (hop : ∀ i o, i < n → l[i]? = some o → ∀ (vals : Nat → Value) (ρ : Env) (w : World) (X : List Res), (∀ j, ancB l n i j = true → F j vals (vals j) ∧ ∀ d, dstOf l j = some d → ρ d = vals j) → (∀ t, (∀ i, i < n → dstOf l i ≠ some t) → ρ t = ρ0 t) → St Z w0 w (X ++ L) →
      WL P m l.toArray (oneQ ρ o.dst (fun v w' => F i vals v ∧ St Z w0 w' (D i vals v ++ (X ++ L)))) [o] ρ w)
    (hend : ∀ (vals : Nat → Value) (ρ : Env) (w : World), (∀ i, i < n → F i vals (vals i) ∧ ∀ d, dstOf l i = some d → ρ d = vals i) → (∀ t, (∀ i, i < n → dstOf l i ≠ some t) → ρ t = ρ0 t) → St Z w0 w (flat (fun i v => D i vals v) (fun _ => true) vals (List.range n) ++ L) →
      WL P m l.toArray Q (l.drop n) ρ w) : WC P m (.region id l.toArray true) Q ρ0 w := by
  intro a ha
  refine wp_region_any hm ?_
  have hB' := hB
  simp only [headB, Bool.and_eq_true] at hB'
  have hnl : n ≤ l.length := by simpa [Nat.ble_eq] using hB'.1.1.1.1
  have e0 : ∀ j, (Array.replicate l.toArray.size false).getD j false = false := fun j => getD_replicate_false _ _
  have h0 : DInv m l n Z w0 L (fun i v => F i (fun _ => undef) v) (fun i v => D i (fun _ => undef) v) ρ0 (Array.replicate l.toArray.size false) (fun _ => undef) ρ0 w.drew := by
    refine ⟨⟨by simp, fun j oj _ hl => (by rw [e0] at hl; cases hl), fun t _ ht => getD_in (by simpa using ht) (e0 t)⟩, fun i _ hl => (by rw [e0] at hl; cases hl), fun _ _ => rfl, ?_⟩
    have : flat (fun i v => D i (fun _ => undef) v) (fun i => (Array.replicate l.toArray.size false).getD i false) (fun _ => undef) (List.range n) = [] := by
      unfold flat
      rw [List.flatMap_eq_nil_iff]
      intro j _
      show (if (Array.replicate l.toArray.size false).getD j false = true then D j (fun _ => undef) undef else []) = []
      rw [e0]; rfl
    rw [this]
    exact st.drew
  have := drawV_any (P := P) (Q := Q) hB hFc hDc hop hend n (Array.replicate l.toArray.size false) (fun _ => undef) ρ0 w.drew a (by
    rw [List.filter_eq_self.2 (fun j _ => by rw [e0]; rfl)]; simp) ha h0
  have el : n + (l.drop n).length = l.toArray.size := by simp; omega
  rw [el] at this
  exact this
/-- What is owed of operation i. -/
def ObV (P : Program) (m : Nat) (l : List Oper) (n : Nat) (F : Nat → (Nat → Value) → Value → Prop) (D : Nat → (Nat → Value) → Value → List Res) (Z : Nat → Prop) (w0 : World) (L : List Res) (ρ0 : Env) (i : Nat) : Prop :=
  ∀ (vals : Nat → Value) (ρ : Env) (w : World) (X : List Res), (∀ j, ancB l n i j = true → F j vals (vals j) ∧ ∀ d, dstOf l j = some d → ρ d = vals j) → (∀ t, nodst l n t = true → ρ t = ρ0 t) → St Z w0 w (L ++ X) →
    match l[i]? with | some o => WL P m l.toArray (oneQ ρ o.dst (fun v w' => F i vals v ∧ St Z w0 w' (D i vals v ++ (L ++ X)))) [o] ρ w | none => False
/-- THE RULE. -/
theorem WC.drawV {id : Nat} {ρ0 : Env} {w : World} (n : Nat) (F : Nat → (Nat → Value) → Value → Prop) (D : Nat → (Nat → Value) → Value → List Res) (st : St Z w0 w L) (hm : P.follows .mixedOrders = true) (hB : headB m l n = true) (hFc : ∀ i vals vals' v, i < n → (∀ j, ancB l n i j = true → vals j = vals' j) → F i vals v → F i vals' v) (hDc : ∀ i vals vals' v, i < n → (∀ j, ancB l n i j = true → vals j = vals' j) → D i vals v = D i vals' v)
    (hop : ∀ i, i < n → ObV P m l n F D Z w0 L ρ0 i)
    (hend : ∀ (vals : Nat → Value) (ρ : Env) (w : World), (∀ i, Nat.blt i n = true → F i vals (vals i) ∧ ∀ d, dstOf l i = some d → ρ d = vals i) → (∀ t, nodst l n t = true → ρ t = ρ0 t) → St Z w0 w (flat (fun i v => D i vals v) (fun _ => true) vals (List.range n) ++ L) →
      WL P m l.toArray Q (l.drop n) ρ w) : WC P m (.region id l.toArray true) Q ρ0 w := by
  have old : ∀ {ρ : Env}, (∀ t, (∀ i, i < n → dstOf l i ≠ some t) → ρ t = ρ0 t) → ∀ t, nodst l n t = true → ρ t = ρ0 t := fun h t ht => h t (nodst_spec ht)
  refine WC.drawV0 n F D st hm hB hFc hDc ?_ (fun vals ρ w h1 h2 h3 => hend vals ρ w (fun i hi => h1 i (by simpa [Nat.blt_eq] using hi)) (old h2) h3)
  intro i o hi ho vals ρ w X hd h0 hst
  have h := hop i hi vals ρ w X hd (old h0) (St.perm List.perm_append_comm hst)
  rw [ho] at h
  change WL P m l.toArray (oneQ ρ o.dst (fun v w' => F i vals v ∧ St Z w0 w' (D i vals v ++ (L ++ X)))) [o] ρ w at h
  intro a ha
  have e : (oneQ ρ o.dst (fun v w' => F i vals v ∧ St Z w0 w' (D i vals v ++ (L ++ X)))) = (oneQ ρ o.dst (fun v w' => F i vals v ∧ St Z w0 w' (D i vals v ++ (X ++ L)))) := by
    funext ex ρ' w'
    apply propext
    constructor
    · rintro ⟨h1, v, h2, h3, h4⟩
      exact ⟨h1, v, h2, h3, St.perm (List.Perm.append_left _ List.perm_append_comm) h4⟩
    · rintro ⟨h1, v, h2, h3, h4⟩
      exact ⟨h1, v, h2, h3, St.perm (List.Perm.append_left _ List.perm_append_comm) h4⟩
  rw [e] at h
  exact h a ha
end
end Go.Eng
namespace Go.Eng
open Go.RowKit
/-- Some pieces as one piece. -/
def Pk (K : List Res) : Res where
  P w S := ∃ F : Nat → Nat → Prop, (∀ (i : Nat) (r : Res), K[i]? = some r → r.P w (F i)) ∧ (∀ i j k, i ≠ j → F i k → ¬ F j k) ∧ (∀ k, S k ↔ ∃ i, i < K.length ∧ F i k)
  loc := fun ⟨F, h1, h2, h3⟩ h => ⟨F, fun i r hr => r.loc (h1 i r hr) (fun k hk => h k ((h3 k).2 ⟨i, (List.getElem?_eq_some_iff.1 hr).1, hk⟩)), h2, h3⟩
/-- A piece with something unknown in it. -/
def Ex {α : Type} (f : α → Res) : Res where
  P w S := ∃ a, (f a).P w S
  loc := fun ⟨a, h1⟩ h => ⟨a, (f a).loc h1 h⟩
section
variable {Z : Nat → Prop} {w0 w : World} {L K : List Res}
theorem St.ex {α : Type} {f : α → Res} (st : St Z w0 w (Ex f :: L)) : ∃ a, St Z w0 w (f a :: L) := by
  obtain ⟨F, h1, h2, h3⟩ := st.sep
  obtain ⟨a, ha⟩ := h1 0 _ rfl
  refine ⟨a, st.os, st.tape, st.output, st.size, st.dom, st.old, F, ?_, h2, h3⟩
  intro i r hr
  cases i with
  | zero => simp at hr; subst hr; exact ha
  | succ i => exact h1 (i + 1) r (by simpa using hr)
theorem St.exI {α : Type} {f : α → Res} (a : α) (st : St Z w0 w (f a :: L)) : St Z w0 w (Ex f :: L) := by
  obtain ⟨F, h1, h2, h3⟩ := st.sep
  refine ⟨st.os, st.tape, st.output, st.size, st.dom, st.old, F, ?_, h2, h3⟩
  intro i r hr
  cases i with
  | zero => simp at hr; subst hr; exact ⟨a, h1 0 _ rfl⟩
  | succ i => exact h1 (i + 1) r (by simpa using hr)
theorem St.pkI (st : St Z w0 w (K ++ L)) : St Z w0 w (Pk K :: L) := by
  obtain ⟨F, h1, h2, h3⟩ := st.sep
  refine ⟨st.os, st.tape, st.output, st.size, st.dom, st.old, fun i => match i with | 0 => fun k => ∃ j, j < K.length ∧ F j k | i + 1 => F (K.length + i), ?_, ?_, ?_⟩
  · intro i r hr
    cases i with
    | zero =>
      simp at hr; subst hr
      exact ⟨F, fun j q hq => h1 j q (by rw [List.getElem?_append_left (List.getElem?_eq_some_iff.1 hq).1]; exact hq), h2, fun k => Iff.rfl⟩
    | succ i =>
      refine h1 _ r ?_
      rw [List.getElem?_append_right (by omega)]
      simpa using hr
  · intro i j k hij hi hj
    cases i with
    | zero =>
      obtain ⟨a, ha, hf⟩ := hi
      cases j with
      | zero => exact hij rfl
      | succ j => exact h2 a _ k (by omega) hf hj
    | succ i =>
      cases j with
      | zero => obtain ⟨a, ha, hf⟩ := hj; exact h2 _ a k (by omega) hi hf
      | succ j => exact h2 _ _ k (by omega) hi hj
  · intro i k hk
    cases i with
    | zero => obtain ⟨a, _, hf⟩ := hk; exact h3 a k hf
    | succ i => exact h3 _ k hk
theorem St.pk (st : St Z w0 w (Pk K :: L)) : St Z w0 w (K ++ L) := by
  obtain ⟨G, h1, h2, h3⟩ := st.sep
  obtain ⟨F, g1, g2, g3⟩ := h1 0 _ rfl
  have hsub : ∀ i k, i < K.length → F i k → G 0 k := fun i k hi hf => (g3 k).2 ⟨i, hi, hf⟩
  refine ⟨st.os, st.tape, st.output, st.size, st.dom, st.old, fun i => if i < K.length then F i else G (i - K.length + 1), ?_, ?_, ?_⟩
  · intro i r hr
    by_cases hi : i < K.length
    · simp only [hi, if_true]
      exact g1 i r (by rw [List.getElem?_append_left hi] at hr; exact hr)
    · simp only [hi, if_false]
      refine h1 _ r ?_
      rw [List.getElem?_append_right (by omega)] at hr
      simpa using hr
  · intro i j k hij hi hj
    by_cases h : i < K.length
    · by_cases h' : j < K.length
      · simp only [h, h', if_true] at hi hj; exact g2 i j k hij hi hj
      · simp only [h, h', if_true, if_false] at hi hj; exact h2 0 _ k (by omega) (hsub i k h hi) hj
    · by_cases h' : j < K.length
      · simp only [h, h', if_true, if_false] at hi hj; exact h2 _ 0 k (by omega) hi (hsub j k h' hj)
      · simp only [h, h', if_false] at hi hj; exact h2 _ _ k (by omega) hi hj
  · intro i k hk
    by_cases h : i < K.length
    · simp only [h, if_true] at hk; exact h3 0 k (hsub i k h hk)
    · simp only [h, if_false] at hk; exact h3 _ k hk
theorem St.factI {p : Prop} (h : p) (st : St Z w0 w L) : St Z w0 w (Fact p :: L) :=
  st.cons (Below.refl _ _) _ (fun _ => False) ⟨fun _ h => h, h⟩ (fun _ h => h.elim)
end
def HFc (l : List Oper) (n : Nat) (F : Nat → (Nat → Value) → Value → Prop) (i : Nat) : Prop := ∀ (vals vals' : Nat → Value) (v : Value), (∀ j, ancB l n i j = true → vals j = vals' j) → F i vals v → F i vals' v
def HDc (l : List Oper) (n : Nat) (D : Nat → (Nat → Value) → Value → List Res) (i : Nat) : Prop := ∀ (vals vals' : Nat → Value) (v : Value), (∀ j, ancB l n i j = true → vals j = vals' j) → D i vals v = D i vals' v
theorem WC.drawV2 {P : Program} {m : Nat} {l : List Oper} {Q : QP} {Z : Nat → Prop} {w0 : World} {L : List Res} {id : Nat} {ρ0 : Env} {w : World} (n : Nat) (F : Nat → (Nat → Value) → Value → Prop) (D : Nat → (Nat → Value) → Value → List Res) (st : St Z w0 w L) (hm : P.follows .mixedOrders = true) (hB : headB m l n = true)
    (hFc : ∀ i, i < n → HFc l n F i) (hDc : ∀ i, i < n → HDc l n D i) (hop : ∀ i, i < n → ObV P m l n F D Z w0 L ρ0 i)
    (hend : ∀ (vals : Nat → Value) (ρ : Env) (w : World), (∀ i, Nat.blt i n = true → F i vals (vals i) ∧ ∀ d, dstOf l i = some d → ρ d = vals i) → (∀ t, nodst l n t = true → ρ t = ρ0 t) → St Z w0 w (flat (fun i v => D i vals v) (fun _ => true) vals (List.range n) ++ L) →
      WL P m l.toArray Q (l.drop n) ρ w) : WC P m (.region id l.toArray true) Q ρ0 w :=
  WC.drawV n F D st hm hB (fun i a b v hi => hFc i hi a b v) (fun i a b v hi => hDc i hi a b v) hop hend
end Go.Eng
namespace Go.Eng
open Go.RowKit
section
variable {κ α : Type} [DecidableEq κ]
theorem mset_nil (k : κ) (v : α) : mset [] k v = [(k, v)] := rfl
theorem mset_cons (p : κ × α) (m : List (κ × α)) (k : κ) (v : α) : mset (p :: m) k v = if p.1 = k then (k, v) :: m else p :: mset m k v := by
  unfold mset
  by_cases h : p.1 = k
  · simp [List.findIdx?_cons, h]
  · simp only [List.findIdx?_cons, h, decide_false, Bool.false_eq_true, if_false]
    cases m.findIdx? (fun p => decide (p.1 = k)) <;> simp
theorem mget_nil (q : κ) : mget ([] : List (κ × α)) q = none := rfl
theorem mget_cons (p : κ × α) (m : List (κ × α)) (q : κ) : mget (p :: m) q = if p.1 = q then some p.2 else mget m q := by
  unfold mget
  by_cases h : p.1 = q
  · simp [List.find?_cons, h]
  · simp [List.find?_cons, h]
theorem mget_mset (m : List (κ × α)) (k q : κ) (v : α) : mget (mset m k v) q = if q = k then some v else mget m q := by
  induction m with
  | nil =>
    rw [mset_nil, mget_cons, mget_nil]
    by_cases h : q = k
    · simp [h]
    · have : ¬ k = q := fun e => h e.symm
      simp [h, this]
  | cons p m ih =>
    rw [mset_cons, mget_cons]
    by_cases h : p.1 = k
    · rw [if_pos h, mget_cons]
      by_cases hq : q = k
      · subst hq; simp
      · have h1 : ¬ k = q := fun e => hq e.symm
        have h2 : ¬ p.1 = q := fun e => hq (e.symm.trans h)
        simp [hq, h1, h2]
    · rw [if_neg h, mget_cons, ih]
      by_cases hq : q = k
      · subst hq; simp [h]
      · simp [hq]
theorem isSome_mset (m : List (κ × α)) (k q : κ) (v : α) : (mget (mset m k v) q).isSome = (decide (q = k) || (mget m q).isSome) := by
  rw [mget_mset]
  by_cases h : q = k <;> simp [h]
end
theorem wsub {a b : Nat} (h : b ≤ a) (h2 : a < 9223372036854775808) : IntKind.i64.wrap ((a : Int) - (b : Int)) = ((a - b : Nat) : Int) := by
  have : IntKind.i64.wrap ((a : Int) - (b : Int)) = (a : Int) - (b : Int) := IntWalk.i64_in _ (by omega)
  rw [this]; omega
section
variable {P : Program} {Z : Nat → Prop} {w0 w : World} {L : List Res} {ρ : Env} {K : Value → World → Prop} {d : Option Tmp} {ty : TypeId} {pos : String} {after : Array Edge} {gd : Option (Nat × Bool)}
theorem OpT.lookupOkI {κ : Type} [DecidableEq κ] {kf : κ → Value} {ik : IntKind} {t kt et : TypeId} {x y : Operand} {b : Nat} {m : List (κ × Int)} (st : St Z w0 w L) (i : Nat) (hi : L[i]? = some (Mp kf (Value.int ik) b m)) (hk : KeyOk P kt kf) (hu : P.underlying t = some (.map kt et)) (hz : zeroB P et = some (.int ik 0)) (k : κ)
    (hx : evO ρ x = .map (some b)) (hy : evO ρ y = kf k) (hK : K (.tuple #[.int ik ((mget m k).getD 0), .bool (mget m k).isSome]) w) : OpT P ⟨d, .lookup t x y true, ty, pos, after, gd⟩ ρ w K := by
  refine OpT.lookupOk st i hi hk hu hz k hx hy ?_
  cases h : mget m k <;> simpa [h] using hK
theorem OpT.lookupOkU {κ : Type} [DecidableEq κ] {kf : κ → Value} {t kt et : TypeId} {x y : Operand} {b : Nat} {m : List (κ × Unit)} (st : St Z w0 w L) (i : Nat) (hi : L[i]? = some (Mp kf (fun _ : Unit => Value.agg #[]) b m)) (hk : KeyOk P kt kf) (hu : P.underlying t = some (.map kt et)) (hz : zeroB P et = some (.agg #[])) (k : κ)
    (hx : evO ρ x = .map (some b)) (hy : evO ρ y = kf k) (hK : K (.tuple #[.agg #[], .bool (mget m k).isSome]) w) : OpT P ⟨d, .lookup t x y true, ty, pos, after, gd⟩ ρ w K := by
  refine OpT.lookupOk st i hi hk hu hz k hx hy ?_
  cases h : mget m k <;> simpa [h] using hK
theorem OpT.lookupOkV {κ : Type} [DecidableEq κ] {kf : κ → Value} {t kt et : TypeId} {x y : Operand} {b : Nat} {m : List (κ × Value)} {z : Value} (st : St Z w0 w L) (i : Nat) (hi : L[i]? = some (Mp kf (fun v : Value => v) b m)) (hk : KeyOk P kt kf) (hu : P.underlying t = some (.map kt et)) (hz : zeroB P et = some z) (k : κ)
    (hx : evO ρ x = .map (some b)) (hy : evO ρ y = kf k) (hK : K (.tuple #[(mget m k).getD z, .bool (mget m k).isSome]) w) : OpT P ⟨d, .lookup t x y true, ty, pos, after, gd⟩ ρ w K := by
  refine OpT.lookupOk st i hi hk hu hz k hx hy ?_
  cases h : mget m k <;> simpa [h] using hK
theorem OpT.lookupV {κ : Type} [DecidableEq κ] {kf : κ → Value} {t kt et : TypeId} {x y : Operand} {b : Nat} {m : List (κ × Value)} {z : Value} (st : St Z w0 w L) (i : Nat) (hi : L[i]? = some (Mp kf (fun v : Value => v) b m)) (hk : KeyOk P kt kf) (hu : P.underlying t = some (.map kt et)) (hz : zeroB P et = some z) (k : κ)
    (hx : evO ρ x = .map (some b)) (hy : evO ρ y = kf k) (hK : K ((mget m k).getD z) w) : OpT P ⟨d, .lookup t x y false, ty, pos, after, gd⟩ ρ w K := by
  refine OpT.lookup st i hi hk hu hz k hx hy ?_
  cases h : mget m k <;> simpa [h] using hK
end
end Go.Eng
namespace Go.Eng
open Go.RowKit
section
variable {P : Program} {n : Nat} {Q : QP} {ρ : Env} {w : World}
/-! loops and scopes, unrolled -/
def unrQ (I : Env → World → Prop) (Q : QP) : QP
  | .normal, ρ, w => I ρ w
  | e, ρ, w => Q e ρ w
def UL (P : Program) (n : Nat) (c : Code) (Q : QP) : Nat → Env → World → Prop
  | 0, _, _ => False
  | k + 1, ρ, w => WC P n c (unrQ (UL P n c Q k) Q) ρ w
theorem WC.unroll {c : Code} (k : Nat) (h : UL P n c Q k ρ w) : WC P n (.loop c) Q ρ w := by
  refine WC.loop (UL P n c Q) k h ?_
  intro m ρ w hI
  cases m with
  | zero => exact hI.elim
  | succ m =>
    refine WC.mono hI ?_
    intro e ρ w h
    cases e <;> first | exact ⟨m, Nat.lt_succ_self _, h⟩ | exact h
theorem UL.go {c : Code} {k : Nat} (h : WC P n c (unrQ (UL P n c Q k) Q) ρ w) : UL P n c Q (k + 1) ρ w := h
theorem unrQ_n {I : Env → World → Prop} (h : I ρ w) : unrQ I Q .normal ρ w := h
theorem unrQ_x {I : Env → World → Prop} {i : Nat} (h : Q (.exit i) ρ w) : unrQ I Q (.exit i) ρ w := h
theorem unrQ_r {I : Env → World → Prop} (h : Q .ret ρ w) : unrQ I Q .ret ρ w := h
theorem unrQ_g {I : Env → World → Prop} {l : Nat} (h : Q (.goto l) ρ w) : unrQ I Q (.goto l) ρ w := h
def jmpQ (l : Nat) (J : Env → World → Prop) (Q : QP) : QP
  | .goto l', ρ, w => l' = l ∧ J ρ w
  | e, ρ, w => Q e ρ w
theorem jmpQ_n {l : Nat} {J : Env → World → Prop} (h : Q .normal ρ w) : jmpQ l J Q .normal ρ w := h
theorem jmpQ_r {l : Nat} {J : Env → World → Prop} (h : Q .ret ρ w) : jmpQ l J Q .ret ρ w := h
theorem jmpQ_g {l : Nat} {J : Env → World → Prop} (h : J ρ w) : jmpQ l J Q (.goto l) ρ w := ⟨rfl, h⟩
def US (P : Program) (n : Nat) (l : Nat) (c : Code) (Q : QP) : Nat → Env → World → Prop
  | 0, _, _ => False
  | k + 1, ρ, w => WC P n c (jmpQ l (US P n l c Q k) Q) ρ w
theorem US.go {c : Code} {l k : Nat} (h : WC P n c (jmpQ l (US P n l c Q k) Q) ρ w) : US P n l c Q (k + 1) ρ w := h
theorem WC.scope {c rest : Code} (l k : Nat) (hf : findLabel c l = some rest) (h : WC P n c (jmpQ l (US P n l rest Q k) Q) ρ w) : WC P n (.scope c) Q ρ w := by
  intro a ha
  classical
  let J : Act → World → Prop := fun a w => ∃ m ρ, Fr a n ρ ∧ US P n l rest Q m ρ w
  let μ : Act → World → Nat := fun a w => if h : J a w then Classical.choose (least_of (p := fun m => ∃ ρ, Fr a n ρ ∧ US P n l rest Q m ρ w) h) else 0
  refine wp_scope_jumps l J μ hf (wp_mono (h a ha) ?_) ?_
  · rintro e a' w' ⟨ρ', hf', hq⟩
    cases e <;> first | exact ⟨hq.1, _, ρ', hf', hq.2⟩ | exact ⟨ρ', hf', hq⟩
  · intro a w hJ
    have hs : ∃ ρ, Fr a n ρ ∧ US P n l rest Q (μ a w) ρ w := by
      show ∃ ρ, Fr a n ρ ∧ US P n l rest Q (if h : J a w then _ else 0) ρ w
      rw [dif_pos hJ]
      exact (Classical.choose_spec (least_of (p := fun m => ∃ ρ, Fr a n ρ ∧ US P n l rest Q m ρ w) hJ)).1
    obtain ⟨ρ, hfr, hu⟩ := hs
    generalize hm : μ a w = m at hu
    cases m with
    | zero => exact hu.elim
    | succ m =>
      refine wp_mono (hu a hfr) ?_
      rintro e a' w' ⟨ρ', hf', hq⟩
      cases e with
      | goto l' =>
        refine ⟨hq.1, ⟨m, ρ', hf', hq.2⟩, ?_⟩
        have hJ' : J a' w' := ⟨m, ρ', hf', hq.2⟩
        show (if h : J a' w' then _ else 0) < m + 1
        rw [dif_pos hJ']
        exact Nat.lt_succ_of_le ((Classical.choose_spec (least_of (p := fun m => ∃ ρ, Fr a' n ρ ∧ US P n l rest Q m ρ w') hJ')).2 m ⟨ρ', hf', hq.2⟩)
      | _ => exact ⟨ρ', hf', hq⟩
end
section
variable {P : Program} {ρ : Env} {w : World} {K : Value → World → Prop} {d : Option Tmp} {ty : TypeId} {pos : String} {after : Array Edge} {gd : Option (Nat × Bool)}
variable {Z : Nat → Prop} {w0 : World} {L : List Res}
/-- A call that is walked in place. -/
theorem OpT.callC {f : Operand} {axs : Array Operand} {tys : Array TypeId} {k : Nat} (ok : CallOk P k) (first cap args : List Value) (hx : evO ρ f = .func (.func k) first.toArray cap.toArray)
    (ha : first ++ (axs.toList.map (evO ρ)) ++ cap = args) (hc : Calls P k args.toArray w (Ret K)) : OpT P ⟨d, .call ⟨.value f, axs, tys⟩, ty, pos, after, gd⟩ ρ w K := by
  obtain ⟨fn, h1, h2, h3⟩ := ok.ok
  exact OpT.call k first cap args fn h1 h2 h3 hx ha hc
theorem OpT.lenMap {κ α : Type} {kf : κ → Value} {vf : α → Value} {t k e b : Nat} {x : Operand} {tys : Array TypeId} {m : List (κ × α)} (st : St Z w0 w L) (i : Nat) (hi : L[i]? = some (Mp kf vf b m)) (ht : tys[0]? = some t) (hu : P.underlying t = some (.map k e)) (hx : evO ρ x = .map (some b))
    (hK : K (.int .i64 m.length) w) : OpT P ⟨d, .call ⟨.builtin .len, #[x], tys⟩, ty, pos, after, gd⟩ ρ w K := by
  obtain ⟨S, ⟨hS, es, clock, hb, hm, _⟩, _⟩ := st.focus hi
  have e1 : es.size = m.length := by have := congrArg List.length hm; simpa using this
  exact OpT.val (v := .int .i64 m.length) (by simp [execOp, resolve, invoke, builtin, Builtin.len_, hx, ht, run_underlying hu, MapKept.run_getObj_map hb, goInt, e1]) hK
theorem OpT.minI {x y : Operand} {tys : Array TypeId} (k : IntKind) (a b : Int) (hx : evO ρ x = .int k a) (hy : evO ρ y = .int k b) (hK : K (.int k (if b < a then b else a)) w) : OpT P ⟨d, .call ⟨.builtin .min, #[x, y], tys⟩, ty, pos, after, gd⟩ ρ w K :=
  OpT.val (v := .int k (if b < a then b else a)) (by simp [execOp, resolve, invoke, builtin, hx, hy, run_min_int2]) hK
/-- s[0:] and s[:0] .. -/
theorem OpT.sliceLo0 {t e sz : Nat} {x lo : Operand} {b n c : Nat} (hu : P.underlying t = some (.slice e)) (hs : sizeB P e = some sz) (hx : evO ρ x = .slice (some ⟨b, 0, none⟩) n c) (hl : evO ρ lo = .int .i64 0) (hK : K (.slice (some ⟨b, 0, none⟩) n c) w) :
    OpT P ⟨d, .slice t x (some lo) none none, ty, pos, after, gd⟩ ρ w K := by
  have he : P.elem t = e := by simp [Program.elem, hu]
  have hu' : P.underlying t = some (.slice (P.elem t)) := by rw [he]; exact hu
  refine OpT.val (v := .slice (some ⟨b, 0, none⟩) n c) ?_ hK
  simp only [execOp, hx, hl, Sem.run_bind, Option.map_some, Option.map_none, run_sliceAt_slice (h := hu'), run_slice_l (ht := hu') (h0 := Int.le_refl 0) (h1 := Int.natCast_nonneg n), he, run_sizeOf hs, Result.andThen_ok, Sem.run_pure]
  simp [sliced, Addr.add]
theorem OpT.sliceHi {t e sz : Nat} {x hi : Operand} {A : Option Addr} {n c : Nat} (h : Nat) (hu : P.underlying t = some (.slice e)) (hs : sizeB P e = some sz) (hx : evO ρ x = .slice A n c) (hl : evO ρ hi = .int .i64 h) (hc : h ≤ c) (hA : A.map (·.add 0) = A) (hK : K (.slice A h c) w) :
    OpT P ⟨d, .slice t x none (some hi) none, ty, pos, after, gd⟩ ρ w K := by
  have he : P.elem t = e := by simp [Program.elem, hu]
  have hu' : P.underlying t = some (.slice (P.elem t)) := by rw [he]; exact hu
  refine OpT.val (v := .slice A h c) ?_ hK
  simp only [execOp, hx, hl, Sem.run_bind, Option.map_some, Option.map_none, run_sliceAt_slice (h := hu'), run_slice_h (ht := hu') (h0 := Int.natCast_nonneg h) (h2 := Int.ofNat_le.2 hc), he, run_sizeOf hs, Result.andThen_ok, Sem.run_pure]
  simp [sliced, hA]
theorem St.map1 {r r' : Res} (h : ∀ w S, r.P w S → r'.P w S) (st : St Z w0 w (r :: L)) : St Z w0 w (r' :: L) := by
  obtain ⟨F, h1, h2, h3⟩ := st.sep
  refine ⟨st.os, st.tape, st.output, st.size, st.dom, st.old, F, ?_, h2, h3⟩
  intro i q hq
  cases i with
  | zero => simp at hq; subst hq; exact h _ _ (h1 0 _ rfl)
  | succ i => exact h1 (i + 1) q (by simpa using hq)
/-- A row is opened: its block, with what lies behind it. -/
theorem St.openRow {e sz n : Nat} {v : Value} {cs : List Value} (h0 : 0 < n) (st : St Z w0 w (Row e sz v n cs :: L)) :
    ∃ g cap ex, v = .slice (some ⟨g, 0, none⟩) n cap ∧ n * sz + ex.length = cap * sz ∧ n ≤ cap ∧ cap ≤ maxLen ∧ St Z w0 w (Blk g e (cs ++ ex) :: L) := by
  obtain ⟨hl, hr⟩ := st.row (i := 0) rfl
  rcases hr with ⟨_, h⟩ | ⟨g, cap, cur, rfl, _, hg, h1, h2, h3, h4⟩
  · omega
  · have h5 : n * sz ≤ cap * sz := Nat.mul_le_mul_right _ h1
    refine ⟨g, cap, cur.toList.drop (n * sz), rfl, ?_, h1, h2, ?_⟩
    · rw [List.length_drop, Array.length_toList, h3]; omega
    · obtain ⟨F, f1, f2, f3⟩ := st.sep
      refine ⟨st.os, st.tape, st.output, st.size, st.dom, st.old, F, ?_, f2, f3⟩
      intro i q hq
      cases i with
      | zero =>
        simp at hq; subst hq
        obtain ⟨hS, _⟩ := f1 0 _ rfl
        refine ⟨fun k => by rw [hS k]; simp [Value.ownBlock, eq_comm], ?_⟩
        rw [hg, ← h4, List.take_append_drop]
      | succ i => exact f1 (i + 1) q (by simpa using hq)
/-- .. and shut again. -/
theorem St.shutRow {e sz n g cap : Nat} {cs cells : List Value} (st : St Z w0 w (Blk g e cells :: L)) (hl : cells.length = cap * sz) (h1 : n ≤ cap) (h2 : cap ≤ maxLen) (ht : cells.take (n * sz) = cs) : St Z w0 w (Row e sz (.slice (some ⟨g, 0, none⟩) n cap) n cs :: L) := by
  refine St.map1 (r := Blk g e cells) ?_ st
  rintro w S ⟨hS, hg⟩
  refine ⟨fun k => by rw [hS k]; simp [Value.ownBlock, eq_comm], ?_, .inr ⟨g, cap, cells.toArray, rfl, Nat.zero_le _, hg, h1, h2, by simpa using hl, by simpa using ht⟩⟩
  rw [← ht, List.length_take, hl]
  exact Nat.min_eq_left (Nat.mul_le_mul_right _ h1)
/-- make([]T, n) -/
theorem OpT.makeSliceN {t e : Nat} {l c : Operand} {z : Value} {sz by_ : Nat} (n : Nat) (cs : List Value) (st : St Z w0 w L) (hu : P.underlying t = some (.slice e)) (hs : sizeB P e = some sz) (hz : zeroB P e = some z) (hb : (P.info? e).map (·.bytes) = some by_) (hl : evO ρ l = .int .i64 n) (hc : evO ρ c = .int .i64 n)
    (hcs : (madeCells z.cells (n * sz)).toList = cs) (h1 : by_ * n ≤ 281474976710656) (h2 : n ≤ 9223372036854775807) (h3 : n * sz ≤ 16777216) (hK : ∀ b w', St Z w0 w' (Blk b e cs :: L) → K (.slice (some ⟨b, 0, none⟩) n n) w') : OpT P ⟨d, .makeSlice t l c, ty, pos, after, gd⟩ ρ w K := by
  obtain ⟨i, hi, hsz⟩ := Option.map_eq_some_iff.1 hs
  have hz' : i.zero = some z := by unfold zeroB at hz; rw [hi] at hz; exact hz
  have hb' : i.bytes = by_ := by rw [hi] at hb; simpa using hb
  subst hsz hb'
  have hq : (i.bytes : Int) * (n : Int) ≤ 281474976710656 := by
    have h : ((i.bytes * n : Nat) : Int) ≤ 281474976710656 := by omega
    rwa [Int.natCast_mul] at h
  have hr := run_makeSlice (P := P) (w := w) t e i z hu hi hz' .i64 .i64 n n (by omega) (Int.le_refl _) (by simpa using h3) hq (by omega)
  simp only [Int.toNat_natCast] at hr
  refine OpT.val (v := .slice (some ⟨w.heap.size, 0, none⟩) n n) (w' := w.alloc (.cells (madeCells z.cells (n * i.size)) e)) (by simp only [execOp, hl, hc, Sem.run_bind, hr, Result.andThen_ok, Sem.run_pure]) (hK _ _ ?_)
  have := st.alloc e cs
  rw [← hcs] at this ⊢
  simpa using this
/-! a map gone through -/
/-- A map and a walk over it; left: what is still to come; cur: what came last. -/
def MpIt {κ α : Type} (kf : κ → Value) (vf : α → Value) (b r : Nat) (m left : List (κ × α)) (cur : Option (κ × α)) : Res where
  P w S := (∀ k, S k ↔ (k = b ∨ k = r)) ∧ b ≠ r ∧ ∃ es clock since seen c0, w.heap[b]? = some (.map es clock) ∧ w.heap[r]? = some (.mapIter (some b) since seen c0) ∧ es.toList.map (fun e => (e.key, e.val)) = m.map (fun p => (kf p.1, vf p.2)) ∧
    (es.toList.map (fun e : MapEntry => e.born)).Pairwise (· < ·) ∧ (∀ e ∈ es.toList, e.born < clock) ∧ (∀ e ∈ es.toList, e.born < since) ∧ (since ≤ c0 ∧ since ≤ clock) ∧ (leftOf es seen).toList.map (fun e => (e.key, e.val)) = left.map (fun p => (kf p.1, vf p.2)) ∧
    (∀ p, cur = some p → ∃ e ∈ es.toList, ∃ seen' : Array Nat, seen = seen'.push e.born ∧ c0 = clock ∧ e.key = kf p.1 ∧ e.val = vf p.2)
  loc := fun ⟨h0, hne, es, clock, since, seen, c0, h1, h2, h3⟩ h => ⟨h0, hne, es, clock, since, seen, c0, (h b ((h0 b).2 (.inl rfl))).trans h1, (h r ((h0 r).2 (.inr rfl))).trans h2, h3⟩
theorem leftOf_nil (es : Array MapEntry) : leftOf es #[] = es := by
  unfold leftOf
  exact Array.filter_eq_self.2 (fun x _ => by simp)
theorem leftOf_push (es : Array MapEntry) (seen : Array Nat) (b : Nat) : (leftOf es (seen.push b)).toList = (leftOf es seen).toList.filter (fun e => decide (e.born ≠ b)) := by
  unfold leftOf
  rw [Array.toList_filter, Array.toList_filter, List.filter_filter]
  refine List.filter_congr (fun x _ => ?_)
  by_cases h1 : x.born = b <;> simp [h1]
theorem filter_one : ∀ (l : List MapEntry) (e : MapEntry), (l.map (fun e => e.born)).Nodup → e ∈ l → ∃ A B, l = A ++ e :: B ∧ l.filter (fun x => decide (x.born ≠ e.born)) = A ++ B := by
  intro l e hn he
  obtain ⟨A, B, rfl⟩ := List.append_of_mem he
  refine ⟨A, B, rfl, ?_⟩
  rw [List.map_append, List.map_cons, List.nodup_append] at hn
  obtain ⟨_, h2, h3⟩ := hn
  have h4 := List.nodup_cons.1 h2
  rw [List.filter_append, List.filter_cons]
  simp only [ne_eq, not_true_eq_false, decide_false, Bool.false_eq_true, if_false]
  rw [List.filter_eq_self.2, List.filter_eq_self.2]
  · intro x hx
    simp only [decide_eq_true_eq]
    exact fun h => h4.1 (h ▸ List.mem_map_of_mem hx)
  · intro x hx
    simp only [decide_eq_true_eq]
    exact fun h => h3 _ (List.mem_map_of_mem hx) _ (List.mem_cons_self) h
theorem OpT.range {κ α : Type} {kf : κ → Value} {vf : α → Value} {t k e b : Nat} {x : Operand} {m : List (κ × α)} (st : St Z w0 w (Mp kf vf b m :: L)) (hu : P.underlying t = some (.map k e)) (hx : evO ρ x = .map (some b))
    (hK : ∀ r w', St Z w0 w' (MpIt kf vf b r m m none :: L) → K (.pointer (some ⟨r, 0, none⟩)) w') : OpT P ⟨d, .range t x, ty, pos, after, gd⟩ ρ w K := by
  obtain ⟨S, ⟨hS, es, clock, hb, hm, hp, hc⟩, hlt, H⟩ := st.focus (i := 0) rfl
  have hbl : b < w.heap.size := (hlt b ((hS b).2 rfl)).1
  refine OpT.val (v := .pointer (some ⟨w.heap.size, 0, none⟩)) (w' := w.alloc (.mapIter (some b) clock #[] clock)) (by simp only [execOp, hx, Sem.run_bind, run_range_map w t k e b es clock hu hb, Result.andThen_ok, Sem.run_pure]) (hK _ _ ?_)
  refine H _ _ (fun k => k = b ∨ k = w.heap.size) rfl rfl rfl (by simp) (fun k hk _ => heap_alloc_old w _ hk) ?_ ?_
  · refine ⟨fun _ => Iff.rfl, by omega, es, clock, clock, #[], clock, (heap_alloc_old w _ hbl).trans hb, heap_alloc_new w _, hm, hp, hc, hc, ⟨Nat.le_refl _, Nat.le_refl _⟩, by rw [leftOf_nil]; exact hm, fun p hp => by cases hp⟩
  · rintro k (rfl | rfl)
    · exact ⟨by simp; omega, .inl ((hS _).2 rfl)⟩
    · exact ⟨by simp, .inr (Nat.le_refl _)⟩
theorem heap_setBlock (w : World) (r k : Nat) (o : Obj) : (Go.ChangeMaps.setBlock w r o).heap[k]? = if r = k ∧ k < w.heap.size then some o else w.heap[k]? := by
  simp only [Go.ChangeMaps.setBlock, Array.getElem?_setIfInBounds]
  by_cases h : r = k
  · subst h
    by_cases h2 : r < w.heap.size
    · simp [h2]
    · simp [h2]
  · simp [h]
theorem OpT.next {κ α : Type} {kf : κ → Value} {vf : α → Value} {b r : Nat} {x : Operand} {m left : List (κ × α)} {cur : Option (κ × α)} (st : St Z w0 w (MpIt kf vf b r m left cur :: L)) (hx : evO ρ x = .pointer (some ⟨r, 0, none⟩))
    (hE : left = [] → K (.tuple #[.bool false]) w) (hK : ∀ A p B w', left = A ++ p :: B → St Z w0 w' (MpIt kf vf b r m (A ++ B) (some p) :: L) → K (.tuple #[.bool true, kf p.1, vf p.2]) w') : OpT P ⟨d, .next x false, ty, pos, after, gd⟩ ρ w K := by
  obtain ⟨S, ⟨hS, hne, es, clock, since, seen, c0, hb, hr, hm, hp, hc, hold, ⟨hsc, hscl⟩, hl, _⟩, hlt, H⟩ := st.focus (i := 0) rfl
  rcases run_next_at (P := P) w ty r b since c0 seen es clock hr hb hold hsc with ⟨h0, hrun⟩ | ⟨e, he, w1, hw1, hrun⟩
  · refine OpT.val (v := .tuple #[.bool false]) (by simp only [execOp, hx, Sem.run_bind, hrun, Result.andThen_ok, Sem.run_pure]) (hE ?_)
    have : (leftOf es seen).toList = [] := by rw [← List.length_eq_zero_iff]; simpa using h0
    rw [this] at hl
    simpa using hl.symm
  · have hsub : ∀ x ∈ (leftOf es seen).toList, x ∈ es.toList := fun x hx => by
      unfold leftOf at hx
      rw [Array.toList_filter] at hx
      exact (List.mem_filter.1 hx).1
    have hnd : ((leftOf es seen).toList.map (fun e => e.born)).Nodup := by
      unfold leftOf
      rw [Array.toList_filter]
      have h1 : (es.toList.map (fun e : MapEntry => e.born)).Nodup := hp.imp (fun h => Nat.ne_of_lt h)
      exact List.Nodup.sublist (List.Sublist.map _ List.filter_sublist) h1
    obtain ⟨A, B, eL, eF⟩ := filter_one _ e hnd he
    rw [eL, List.map_append, List.map_cons] at hl
    obtain ⟨A', r', e1, hA, hr'⟩ := List.map_eq_append_iff.1 hl.symm
    obtain ⟨p, B', e2, hpe, hB⟩ := List.map_eq_cons_iff.1 hr'
    subst e1 e2
    simp only [Prod.mk.injEq] at hpe
    have h1 : w1.heap = w.heap := by rcases hw1 with rfl | rfl <;> rfl
    have hsz : (Go.ChangeMaps.setBlock w1 r (.mapIter (some b) since (seen.push e.born) clock)).heap.size = w.heap.size := by simp [Go.ChangeMaps.setBlock, h1]
    have hg : ∀ k, (Go.ChangeMaps.setBlock w1 r (.mapIter (some b) since (seen.push e.born) clock)).heap[k]? = if r = k ∧ k < w.heap.size then some (.mapIter (some b) since (seen.push e.born) clock) else w.heap[k]? := by
      intro k; rw [heap_setBlock, h1]
    have hrl : r < w.heap.size := (hlt r ((hS r).2 (.inr rfl))).1
    refine OpT.val (v := .tuple #[.bool true, e.key, e.val]) (w' := Go.ChangeMaps.setBlock w1 r (.mapIter (some b) since (seen.push e.born) clock)) (by simp only [execOp, hx, Sem.run_bind, hrun, Result.andThen_ok, Sem.run_pure]) ?_
    rw [← hpe.1, ← hpe.2]
    refine hK A' p B' _ rfl ?_
    refine H _ _ S ?_ ?_ ?_ (by rw [hsz]; exact Nat.le_refl _) ?_ ?_ (fun k hk => ⟨by rw [hsz]; exact (hlt k hk).1, .inl hk⟩)
    · rcases hw1 with rfl | rfl <;> rfl
    · rcases hw1 with rfl | rfl <;> rfl
    · rcases hw1 with rfl | rfl <;> rfl
    · intro k hk hn
      rw [hg, if_neg]
      rintro ⟨rfl, _⟩
      exact hn ((hS _).2 (.inr rfl))
    · refine ⟨hS, hne, es, clock, since, seen.push e.born, clock, by rw [hg, if_neg (fun h => hne h.1.symm)]; exact hb, by rw [hg, if_pos ⟨rfl, hrl⟩], hm, hp, hc, hold, ?_, ?_, ?_⟩
      · exact ⟨hscl, hscl⟩
      · rw [leftOf_push, eF, List.map_append, List.map_append, hA, hB]
      · intro q hq
        cases hq
        exact ⟨e, hsub e he, seen, rfl, rfl, hpe.1.symm, hpe.2.symm⟩
theorem OpT.entry {κ α : Type} {kf : κ → Value} {vf : α → Value} {b r : Nat} {x : Operand} {m left : List (κ × α)} {p : κ × α} (st : St Z w0 w (MpIt kf vf b r m left (some p) :: L)) (hx : evO ρ x = .pointer (some ⟨r, 0, none⟩))
    (hK : K (.tuple #[kf p.1, vf p.2]) w) : OpT P ⟨d, .entry x, ty, pos, after, gd⟩ ρ w K := by
  obtain ⟨S, ⟨hS, hne, es, clock, since, seen, c0, hb, hr, hm, hp, hc, hold, hsc, hl, hcur⟩, hlt, H⟩ := st.focus (i := 0) rfl
  obtain ⟨e, he, seen', rfl, rfl, hk, hv⟩ := hcur p rfl
  rw [← hk, ← hv] at hK
  have hrun := run_entry_at (P := P) w r b since seen' es c0 e hr hb he (hp.imp (fun h => Nat.ne_of_lt h))
  exact OpT.val (v := .tuple #[e.key, e.val]) (by simp only [execOp, hx, Sem.run_bind, hrun, Result.andThen_ok, Sem.run_pure]) hK
theorem St.endIt {κ α : Type} {kf : κ → Value} {vf : α → Value} {b r : Nat} {m left : List (κ × α)} {cur : Option (κ × α)} (st : St Z w0 w (MpIt kf vf b r m left cur :: L)) : St Z w0 w (Mp kf vf b m :: L) := by
  obtain ⟨F, f1, f2, f3⟩ := st.sep
  obtain ⟨hS, hne, es, clock, since, seen, c0, hb, hr, hm, hp, hc, _⟩ := f1 0 _ rfl
  refine ⟨st.os, st.tape, st.output, st.size, st.dom, st.old, fun i => match i with | 0 => fun k => k = b | i + 1 => F (i + 1), ?_, ?_, ?_⟩
  · intro i q hq
    cases i with
    | zero => simp at hq; subst hq; exact ⟨fun _ => Iff.rfl, es, clock, hb, hm, hp, hc⟩
    | succ i => exact f1 (i + 1) q (by simpa using hq)
  · intro i j k hij hi hj
    cases i with
    | zero =>
      cases j with
      | zero => exact hij rfl
      | succ j => exact f2 0 (j + 1) k (by omega) ((hS k).2 (.inl hi)) hj
    | succ i =>
      cases j with
      | zero => exact f2 (i + 1) 0 k (by omega) hi ((hS k).2 (.inl hj))
      | succ j => exact f2 _ _ k hij hi hj
  · intro i k hk
    cases i with
    | zero => exact f3 0 k ((hS k).2 (.inl hk))
    | succ i => exact f3 (i + 1) k hk
end
end Go.Eng
namespace Go.Eng
open Go.RowKit
abbrev sl (b n c : Nat) : Value := .slice (some ⟨b, 0, none⟩) n c
/-- Cells and what lies behind them. -/
abbrev cx (cs ex : List Value) : List Value := cs ++ ex
section
variable {P : Program} {ρ : Env} {w : World} {K : Value → World → Prop} {d : Option Tmp} {ty : TypeId} {pos : String} {after : Array Edge} {gd : Option (Nat × Bool)}
variable {Z : Nat → Prop} {w0 : World} {L : List Res}
theorem OpT.lit {o : Oper} {b c : Bool} (h : b = c) (f : K (.bool b) w → OpT P o ρ w K) (hK : K (.bool c) w) : OpT P o ρ w K := f (h ▸ hK)
theorem OpT.litV {o : Oper} {v v' : Value} (h : v = v') (f : K v w → OpT P o ρ w K) (hK : K v' w) : OpT P o ρ w K := f (h ▸ hK)
theorem OpT.fieldV {t f off : Nat} {x : Operand} (cs : List Value) (v : Value) (hu : ∃ fs fd, P.underlying t = some (.struct fs) ∧ fs[f]? = some fd ∧ aggB P fd.type = some false ∧ fd.offset = off) (hx : evO ρ x = .agg cs.toArray) (hv : cs[off]? = some v) (hK : K v w) : OpT P ⟨d, .field t x f, ty, pos, after, gd⟩ ρ w K := by
  obtain ⟨fs, fd, h1, h2, h3, rfl⟩ := hu
  refine OpT.val (v := v) ?_ hK
  have hp : (part fd.type cs.toArray fd.offset).run P w = .ok v w := run_partS h3 (by simpa using hv)
  simp only [execOp, hx, Instr.field, Sem.run_bind, run_underlying h1, Result.andThen_ok, h2, asAgg, Sem.run_pure, hp]
theorem Rl.sl_drop {α : Type} {r : Rl α} {A : Option Addr} {n c : Nat} {xs : List α} (h : r.sl Z w0 (.slice A n c) xs) (l : Nat) (hl : l ≤ xs.length) (hm : c ≠ l) : r.sl Z w0 (sliced A l n c r.sz) (xs.drop l) := by
  obtain ⟨A', c', e, h2, h3⟩ := h
  cases e
  refine ⟨_, _, by rw [List.length_drop]; rfl, by rw [List.length_drop]; omega, fun i x hx => ?_⟩
  rw [List.getElem?_drop] at hx
  obtain ⟨ad, cs, rfl, hr, hR⟩ := h3 (l + i) x hx
  refine ⟨ad.add (l * r.sz), cs, by simp [hm], ?_, hR⟩
  rw [add_add, ← Nat.add_mul]
  exact hr
theorem OpT.sliceLo {t e sz : Nat} {x lo : Operand} {A : Option Addr} {n c : Nat} (l : Nat) (hu : P.underlying t = some (.slice e)) (hs : sizeB P e = some sz) (hx : evO ρ x = .slice A n c) (hl : evO ρ lo = .int .i64 l) (hc : l ≤ n) (hK : K (sliced A l n c sz) w) :
    OpT P ⟨d, .slice t x (some lo) none none, ty, pos, after, gd⟩ ρ w K := by
  have he : P.elem t = e := by simp [Program.elem, hu]
  have hu' : P.underlying t = some (.slice (P.elem t)) := by rw [he]; exact hu
  refine OpT.val (v := sliced A l n c sz) ?_ hK
  simp only [execOp, hx, hl, Sem.run_bind, Option.map_some, Option.map_none, run_sliceAt_slice (h := hu'), run_slice_l (ht := hu') (h0 := Int.natCast_nonneg l) (h1 := Int.ofNat_le.2 hc), he, run_sizeOf hs, Result.andThen_ok, Sem.run_pure]
  rfl
theorem St.selD {M : List Res} (n : Nat) (is : List Nat) (h1 : is.all (Nat.blt · n) = true) (h2 : Nat.ble n M.length = true) (hn : is.Nodup) (st : St Z w0 w M) : St Z w0 w (Go.Eng.pk (M.take n) is ++ M.drop n) := by
  rw [← List.take_append_drop n M] at st
  refine St.selT (M.take n) is ?_ hn st
  have : (M.take n).length = n := by rw [List.length_take]; exact Nat.min_eq_left (by simpa [Nat.ble_eq] using h2)
  rw [this]; exact h1
theorem one_left {α : Type} {x p : α} {A B : List α} (h : [x] = A ++ p :: B) : A = [] ∧ p = x ∧ B = [] := by
  cases A with
  | nil => simp at h; exact ⟨rfl, h.1.symm, h.2⟩
  | cons a A => simp at h
theorem Rl.sl_blk {α : Type} {r : Rl α} {b c : Nat} {cs : List Value} {xs : List α} (h : RowZ Z w0 ⟨b, 0, none⟩ cs) (hl : xs.length ≤ 140737488355328) (hR : ∀ i x, xs[i]? = some x → r.R Z w0 ((cs.drop (i * r.sz)).take r.sz) x) : r.sl Z w0 (.slice (some ⟨b, 0, none⟩) xs.length c) xs :=
  ⟨some ⟨b, 0, none⟩, c, rfl, hl, fun i x hx => ⟨⟨b, 0, none⟩, _, rfl, h.part _ _, hR i x hx⟩⟩
theorem St.freezeBX {b : Nat} {t : TypeId} {cs : List Value} (st : St Z w0 w (Blk b t cs :: L)) : ∃ Z', Ext Z w0 Z' w ∧ RowZ Z' w ⟨b, 0, none⟩ cs ∧ St Z' w w L := by
  obtain ⟨Z', hz, hw, hr, st', bk⟩ := st.freezeB
  exact ⟨Z', ⟨hz, hw, fun w' L' h => (bk w' L' h).tl⟩, hr, st'⟩
theorem Ext.rowZ {Z1 : Nat → Prop} {w1 : World} {ad : Addr} {cs : List Value} (h : Ext Z w0 Z1 w1) (g : RowZ Z w0 ad cs) : RowZ Z1 w1 ad cs := g.mono h.1 h.2.1
end
end Go.Eng
namespace Go.Eng
open Go.RowKit
theorem mapM_some {α β : Type} {f : α → Option β} : ∀ {l : List α} {ys : List β}, l.mapM f = some ys → ys.length = l.length ∧ ∀ (i : Nat) (a : α), l[i]? = some a → ∃ y, ys[i]? = some y ∧ f a = some y
  | [], ys, h => by
    simp at h; subst h
    exact ⟨rfl, fun i a h => by simp at h⟩
  | a :: l, ys, h => by
    rw [List.mapM_cons] at h
    cases hf : f a with
    | none => rw [hf] at h; cases h
    | some y =>
      rw [hf] at h
      cases hm : l.mapM f with
      | none => rw [hm] at h; cases h
      | some zs =>
        rw [hm] at h
        cases h
        obtain ⟨h1, h2⟩ := mapM_some hm
        refine ⟨by simp [h1], fun i b hb => ?_⟩
        cases i with
        | zero => simp at hb; subst hb; exact ⟨y, rfl, hf⟩
        | succ i => exact h2 i b (by simpa using hb)
section
variable {H : Type} {enc : TypeId × Value → H} {P : Program} {W : World} {base : Nat} {sp : Nat → Bool} {held : Bool}
def wOk (P : Program) (t : TypeId) (d : DataW H) : Prop := ∀ x ∈ d.weights P t, x ≤ reachBytes
theorem wAll {e : TypeId} : ∀ {ds : List (DataW H)} {i : Nat} {d : DataW H}, ds[i]? = some d → ∀ x ∈ d.weights P e, x ∈ DataW.weightsAll P e ds
  | [], i, d, h => by simp at h
  | a :: ds, i, d, h => by
    intro x hx
    rw [DataW.weightsAll, List.mem_append]
    cases i with
    | zero => simp at h; subst h; exact .inl hx
    | succ i => exact .inr (wAll (by simpa using h) x hx)
theorem wEach : ∀ {ts : List TypeId} {ds : List (DataW H)} {i : Nat} {t : TypeId} {d : DataW H}, ts[i]? = some t → ds[i]? = some d → ∀ x ∈ d.weights P t, x ∈ DataW.weightsEach P ts ds
  | [], _, i, t, d, h, _ => by simp at h
  | _ :: _, [], i, t, d, _, h => by simp at h
  | a :: ts, b :: ds, i, t, d, ht, hd => by
    intro x hx
    rw [DataW.weightsEach, List.mem_append]
    cases i with
    | zero => simp at ht hd; subst ht hd; exact .inl hx
    | succ i => exact .inr (wEach (by simpa using ht) (by simpa using hd) x hx)
theorem rd_pos {fuel : Nat} {t : TypeId} {cs : List Value} {y : DataW H × List MemPlace} (h : DataW.trod enc P W base sp held fuel t cs = some y) : ∃ f, fuel = f + 1 := by
  cases fuel with
  | zero => cases h
  | succ f => exact ⟨f, rfl⟩
theorem rd_int {fuel : Nat} {t : TypeId} {k : IntKind} {cs : List Value} {y : DataW H × List MemPlace} (ht : P.underlying t = some (.int k)) (h : DataW.trod enc P W base sp held fuel t cs = some y) : ∃ n, cs = [.int k n] := by
  obtain ⟨f, rfl⟩ := rd_pos h
  unfold DataW.trod at h
  rw [ht] at h
  split at h <;> simp_all
theorem rd_str {fuel : Nat} {t : TypeId} {cs : List Value} {y : DataW H × List MemPlace} (ht : P.underlying t = some .string) (h : DataW.trod enc P W base sp held fuel t cs = some y) : ∃ s, cs = [.string s] ∧ s.size ≤ maxLen := by
  obtain ⟨f, rfl⟩ := rd_pos h
  obtain ⟨s, h1, _, h2⟩ := DataW.trod_string ht h
  exact ⟨s, h1, h2⟩
def fieldsB (P : Program) (t : TypeId) : Option (List (TypeId × Nat × Nat)) := match P.underlying t with | some (.struct fs) => some (fs.toList.map fun f => (f.type, f.offset, P.cellsOf f.type)) | _ => none
theorem rd_struct {fuel : Nat} {t : TypeId} {cs : List Value} {d : DataW H} {p : List MemPlace} {L : List (TypeId × Nat × Nat)} (hf : fieldsB P t = some L) (h : DataW.trod enc P W base sp held (fuel + 1) t cs = some (d, p)) (hw : wOk P t d) :
    cs.length = P.cellsOf t ∧ ∀ (i : Nat) ty off sz, L[i]? = some (ty, off, sz) → ∃ d' p', DataW.trod enc P W base sp held fuel ty ((cs.drop off).take sz) = some (d', p') ∧ wOk P ty d' := by
  unfold fieldsB at hf
  cases hu : P.underlying t with
  | none => rw [hu] at hf; cases hf
  | some td =>
    rw [hu] at hf
    cases td <;> first | (cases hf; done) | skip
    rename_i fs
    simp only [Option.some.injEq] at hf
    subst hf
    unfold DataW.trod at h
    rw [hu] at h
    simp only at h
    split at h
    · rename_i hl
      refine ⟨hl, ?_⟩
      cases hm : (fs.toList.mapM fun f => DataW.trod enc P W base sp held fuel f.type ((cs.drop f.offset).take (P.cellsOf f.type))) with
      | none => rw [hm] at h; cases h
      | some xs =>
        rw [hm] at h
        simp only [Option.map_some, Option.some.injEq, Prod.mk.injEq] at h
        obtain ⟨rfl, rfl⟩ := h
        obtain ⟨h1, h2⟩ := mapM_some hm
        intro i ty off sz hi
        rw [List.getElem?_map] at hi
        cases hfi : fs.toList[i]? with
        | none => rw [hfi] at hi; cases hi
        | some f =>
          rw [hfi] at hi
          simp only [Option.map_some, Option.some.injEq, Prod.mk.injEq] at hi
          obtain ⟨rfl, rfl, rfl⟩ := hi
          obtain ⟨y, hy, hv⟩ := h2 i f hfi
          refine ⟨y.1, y.2, hv, fun x hx => hw x ?_⟩
          rw [DataW.weights, hu]
          exact wEach (i := i) (by rw [List.getElem?_map, hfi]; rfl) (by rw [List.getElem?_map, hy]; rfl) x hx
    · cases h
theorem rowZ_of {ad : Addr} {n : Nat} {cs : List Value} (h : W.cells? base ad n = some cs) : RowZ (fun k => k < W.heap.size) W ad cs := by
  intro w' hw j u hu
  unfold World.cells? at h
  split at h
  · obtain ⟨h1, h2⟩ := mapM_some h
    have hj : j < (List.range n).length := by rw [← h1]; exact (List.getElem?_eq_some_iff.1 hu).1
    obtain ⟨y, hy, hv⟩ := h2 j j (by rw [List.getElem?_range (by simpa using hj)])
    rw [hu] at hy; cases hy
    refine (World.cell?_of_block (hw _ ?_)).trans hv
    show (ad.add j).block < W.heap.size
    unfold World.cell? at hv
    rcases Nat.lt_or_ge (ad.add j).block W.heap.size with hlt | hge
    · exact hlt
    · rw [Array.getElem?_eq_none hge] at hv; cases hv
  · cases h
theorem rd_slice {α : Type} {r : Rl α} {fuel : Nat} {t e : TypeId} {cs : List Value} {d : DataW H} {p : List MemPlace} (ht : P.underlying t = some (.slice e)) (hsz : P.cellsOf e = r.sz) (hb0 : Nat.blt 0 (P.bytesOf e) = true)
    {Q : α → Prop} (hr : ∀ cs d p, DataW.trod enc P W base sp held fuel e cs = some (d, p) → wOk P e d → ∃ x, r.R (fun k => k < W.heap.size) W cs x ∧ Q x)
    (h : DataW.trod enc P W base sp held (fuel + 1) t cs = some (d, p)) (hw : wOk P t d) : ∃ v xs, cs = [v] ∧ r.sl (fun k => k < W.heap.size) W v xs ∧ ∀ x ∈ xs, Q x := by
  have hb : 0 < P.bytesOf e := by simpa [Nat.blt_eq] using hb0
  unfold DataW.trod at h
  rw [ht] at h
  split at h <;> first | (rename_i e1; cases e1; done) | skip
  all_goals first
    | (simp_all; done)
    | skip
  · exact ⟨_, [], rfl, Rl.sl_nil _ _ _ _ _, fun x h => by cases h⟩
  · rename_i _ _ e' a len cap heq
    simp only [Option.some.injEq, TypeDesc.slice.injEq] at heq
    subst heq
    simp only at h
    split at h
    · rename_i hc
      cases hm : List.mapM (fun i => (W.cells? base (a.add (i * P.cellsOf e)) (P.cellsOf e)).bind (DataW.trod enc P W base sp held fuel e)) (List.range len) with
      | none => rw [hm] at h; cases h
      | some elems =>
        rw [hm] at h
        simp only [Option.bind_some, Option.map_eq_some_iff, Prod.mk.injEq] at h
        obtain ⟨rest, _, rfl, _⟩ := h
        obtain ⟨h1, h2⟩ := mapM_some hm
        rw [List.length_range] at h1
        have hlen : len ≤ 140737488355328 := by
          have := hw ((elems.map (·.1)).length + (rest.map (·.1)).length |> (· * P.bytesOf e)) (by rw [DataW.weights, ht]; exact List.mem_cons_self)
          have h3 : elems.length * 1 ≤ ((elems.map (·.1)).length + (rest.map (·.1)).length) * P.bytesOf e := Nat.mul_le_mul (by simp) hb
          simp only [reachBytes] at this
          omega
        have hex : ∀ i : Fin len, ∃ x : α, ∃ cs, RowZ (fun k => k < W.heap.size) W (a.add (i.1 * r.sz)) cs ∧ r.R (fun k => k < W.heap.size) W cs x ∧ Q x := by
          intro i
          obtain ⟨y, hy, hv⟩ := h2 i.1 i.1 (List.getElem?_range i.2)
          cases hcs : W.cells? base (a.add (i.1 * P.cellsOf e)) (P.cellsOf e) with
          | none => rw [hcs] at hv; cases hv
          | some cs =>
            rw [hcs] at hv
            obtain ⟨x, hx⟩ := hr cs y.1 y.2 hv (fun q hq => hw q (by
              rw [DataW.weights, ht]
              refine List.mem_cons_of_mem _ (List.mem_append_left _ ?_)
              exact wAll (i := i.1) (by rw [List.getElem?_map, hy]; rfl) q hq))
            refine ⟨x, cs, ?_, hx⟩
            rw [← hsz]
            exact rowZ_of hcs
        refine ⟨_, List.ofFn (fun i => (hex i).choose), rfl, ⟨some a, cap, by rw [List.length_ofFn], by rw [List.length_ofFn]; exact hlen, ?_⟩, fun x hx => ?_⟩
        rotate_left
        · obtain ⟨i, rfl⟩ := List.mem_ofFn.1 hx
          obtain ⟨_, _, _, h7⟩ := (hex i).choose_spec
          exact h7
        intro i x hx
        have hi : i < len := by have := (List.getElem?_eq_some_iff.1 hx).1; rwa [List.length_ofFn] at this
        rw [List.getElem?_ofFn, dif_pos hi] at hx
        cases hx
        obtain ⟨cs, h5, h6, _⟩ := (hex ⟨i, hi⟩).choose_spec
        exact ⟨a, cs, rfl, h5, h6⟩
    · cases h
end
end Go.Eng
namespace Go.Proofs
open Go.Shelf
def Tryz.keys30_ren : Go.Shelf.Ren := ⟨fun | 7 => 30 | 10 => 56 | n => n, fun | 23 => 89 | 26 => 9 | 3 => 90 | 28 => 87 | 0 => 0 | 27 => 86 | 33 => 118 | 4 => 4 | n => n, fun | n => n⟩
theorem Tryz.keys30 : Go.Proofs.SlLaysZ.n7 Tryz.prog Tryz.keys30_ren := {
  mixed := by kernel_rfl
  f7 := ⟨Tryz.f30.name, by decide, Tryz.func30.trans (congrArg some (by kernel_rfl))⟩
  f10 := ⟨Tryz.f56.name, by decide, Tryz.func56.trans (congrArg some (by kernel_rfl))⟩
  t0 := Tryz.underlying0
  a0 := Tryz.isAgg0
  z0 := Tryz.sizeOf0
  v0 := Tryz.zeroValue0
  t4 := Tryz.underlying4
  a4 := Tryz.isAgg4
  z4 := Tryz.sizeOf4
  v4 := Tryz.zeroValue4
  t23 := Tryz.underlying89
  a23 := Tryz.isAgg89
  z23 := Tryz.sizeOf89
  v23 := Tryz.zeroValue89
  t26 := Tryz.underlying9
  a26 := Tryz.isAgg9
  z26 := Tryz.sizeOf9
  v26 := Tryz.zeroValue9
  t27 := Tryz.underlying86
  a27 := Tryz.isAgg86
  z27 := Tryz.sizeOf86
  v27 := Tryz.zeroValue86
  t28 := Tryz.underlying87
  a28 := Tryz.isAgg87
  z28 := Tryz.sizeOf87
  v28 := Tryz.zeroValue87
  t33 := Tryz.underlying118
  a33 := Tryz.isAgg118
  z33 := Tryz.sizeOf118
  v33 := Tryz.zeroValue118 }
def Tryz.sorted51_ren : Go.Shelf.Ren := ⟨fun | 6 => 51 | 8 => 54 | 9 => 76 | 11 => 79 | 13 => 81 | 12 => 92 | 23 => 101 | 24 => 102 | 14 => 111 | 15 => 112 | 16 => 113 | 17 => 114 | 18 => 115 | 19 => 116 | 20 => 117 | 21 => 118 | 22 => 119 | 25 => 129 | 26 => 121 | 27 => 122 | 28 => 130 | 29 => 131 | 30 => 132 | 31 => 139 | n => n, fun | 26 => 9 | 28 => 87 | 24 => 37 | 0 => 0 | 3 => 3 | 37 => 151 | 48 => 172 | 50 => 174 | 4 => 4 | 40 => 166 | 39 => 165 | 45 => 112 | 5 => 5 | 9 => 9 | 51 => 188 | 55 => 192 | 57 => 200 | 58 => 201 | 33 => 118 | n => n, fun | n => n⟩
theorem Tryz.sorted51 : Go.Proofs.SlLaysZ.n6 Tryz.prog Tryz.sorted51_ren := {
  mixed := by kernel_rfl
  f6 := ⟨Tryz.f51.name, by decide, Tryz.func51.trans (congrArg some (by kernel_rfl))⟩
  f8 := ⟨Tryz.f54.name, by decide, Tryz.func54.trans (congrArg some (by kernel_rfl))⟩
  f11 := ⟨Tryz.f79.name, by decide, Tryz.func79.trans (congrArg some (by kernel_rfl))⟩
  t0 := Tryz.underlying0
  a0 := Tryz.isAgg0
  z0 := Tryz.sizeOf0
  v0 := Tryz.zeroValue0
  t24 := Tryz.underlying37
  a24 := Tryz.isAgg37
  z24 := Tryz.sizeOf37
  v24 := Tryz.zeroValue37
  t26 := Tryz.underlying9
  a26 := Tryz.isAgg9
  z26 := Tryz.sizeOf9
  v26 := Tryz.zeroValue9
  t28 := Tryz.underlying87
  a28 := Tryz.isAgg87
  z28 := Tryz.sizeOf87
  v28 := Tryz.zeroValue87
  i26 := by kernel_rfl }
def Tryz.sort76_ren : Go.Shelf.Ren := ⟨fun | 6 => 76 | 8 => 81 | 9 => 92 | 19 => 101 | 20 => 102 | 21 => 111 | 22 => 112 | 23 => 113 | 24 => 114 | 25 => 115 | 26 => 116 | 27 => 117 | 28 => 118 | 29 => 119 | 36 => 129 | 31 => 121 | 32 => 122 | 37 => 130 | 38 => 131 | 39 => 132 | 41 => 139 | n => n, fun | 27 => 37 | 29 => 9 | 3 => 3 | 32 => 151 | 26 => 37 | 0 => 0 | 44 => 172 | 46 => 174 | 4 => 4 | 36 => 166 | 35 => 165 | 41 => 112 | 5 => 5 | 9 => 9 | 53 => 188 | 57 => 192 | 63 => 200 | 64 => 201 | n => n, fun | n => n⟩
theorem Tryz.sort76 : Go.Proofs.SlLaysM.n6 Tryz.prog Tryz.sort76_ren := {
  mixed := by kernel_rfl
  f6 := ⟨Tryz.f76.name, by decide, Tryz.func76.trans (congrArg some (by kernel_rfl))⟩
  f8 := Tryz.func81.trans (congrArg some (by kernel_rfl))
  f9 := ⟨Tryz.f92.name, by decide, Tryz.func92.trans (congrArg some (by kernel_rfl))⟩
  f19 := Tryz.func101.trans (congrArg some (by kernel_rfl))
  f20 := Tryz.func102.trans (congrArg some (by kernel_rfl))
  f21 := ⟨Tryz.f111.name, by decide, Tryz.func111.trans (congrArg some (by kernel_rfl))⟩
  f22 := ⟨Tryz.f112.name, by decide, Tryz.func112.trans (congrArg some (by kernel_rfl))⟩
  f23 := ⟨Tryz.f113.name, by decide, Tryz.func113.trans (congrArg some (by kernel_rfl))⟩
  f24 := ⟨Tryz.f114.name, by decide, Tryz.func114.trans (congrArg some (by kernel_rfl))⟩
  f25 := ⟨Tryz.f115.name, by decide, Tryz.func115.trans (congrArg some (by kernel_rfl))⟩
  f26 := ⟨Tryz.f116.name, by decide, Tryz.func116.trans (congrArg some (by kernel_rfl))⟩
  f27 := ⟨Tryz.f117.name, by decide, Tryz.func117.trans (congrArg some (by kernel_rfl))⟩
  f28 := ⟨Tryz.f118.name, by decide, Tryz.func118.trans (congrArg some (by kernel_rfl))⟩
  f29 := ⟨Tryz.f119.name, by decide, Tryz.func119.trans (congrArg some (by kernel_rfl))⟩
  f31 := Tryz.func121.trans (congrArg some (by kernel_rfl))
  f32 := Tryz.func122.trans (congrArg some (by kernel_rfl))
  f36 := ⟨Tryz.f129.name, by decide, Tryz.func129.trans (congrArg some (by kernel_rfl))⟩
  f37 := ⟨Tryz.f130.name, by decide, Tryz.func130.trans (congrArg some (by kernel_rfl))⟩
  f38 := ⟨Tryz.f131.name, by decide, Tryz.func131.trans (congrArg some (by kernel_rfl))⟩
  f39 := ⟨Tryz.f132.name, by decide, Tryz.func132.trans (congrArg some (by kernel_rfl))⟩
  f41 := ⟨Tryz.f139.name, by decide, Tryz.func139.trans (congrArg some (by kernel_rfl))⟩
  t0 := Tryz.underlying0
  a0 := Tryz.isAgg0
  z0 := Tryz.sizeOf0
  v0 := Tryz.zeroValue0
  t3 := Tryz.underlying3
  a3 := Tryz.isAgg3
  z3 := Tryz.sizeOf3
  v3 := Tryz.zeroValue3
  t4 := Tryz.underlying4
  a4 := Tryz.isAgg4
  z4 := Tryz.sizeOf4
  v4 := Tryz.zeroValue4
  t5 := Tryz.underlying5
  a5 := Tryz.isAgg5
  z5 := Tryz.sizeOf5
  v5 := Tryz.zeroValue5
  t9 := Tryz.underlying9
  a9 := Tryz.isAgg9
  z9 := Tryz.sizeOf9
  v9 := Tryz.zeroValue9
  t26 := Tryz.underlying37
  a26 := Tryz.isAgg37
  z26 := Tryz.sizeOf37
  v26 := Tryz.zeroValue37
  t27 := Tryz.underlying37
  a27 := Tryz.isAgg37
  z27 := Tryz.sizeOf37
  v27 := Tryz.zeroValue37
  t29 := Tryz.underlying9
  a29 := Tryz.isAgg9
  z29 := Tryz.sizeOf9
  v29 := Tryz.zeroValue9
  t32 := Tryz.underlying151
  a32 := Tryz.isAgg151
  z32 := Tryz.sizeOf151
  v32 := Tryz.zeroValue151
  t35 := Tryz.underlying165
  a35 := Tryz.isAgg165
  z35 := Tryz.sizeOf165
  v35 := Tryz.zeroValue165
  t36 := Tryz.underlying166
  a36 := Tryz.isAgg166
  z36 := Tryz.sizeOf166
  v36 := Tryz.zeroValue166
  t41 := Tryz.underlying112
  a41 := Tryz.isAgg112
  z41 := Tryz.sizeOf112
  v41 := Tryz.zeroValue112
  t44 := Tryz.underlying172
  a44 := Tryz.isAgg172
  z44 := Tryz.sizeOf172
  v44 := Tryz.zeroValue172
  t46 := Tryz.underlying174
  a46 := Tryz.isAgg174
  z46 := Tryz.sizeOf174
  v46 := Tryz.zeroValue174
  t53 := Tryz.underlying188
  a53 := Tryz.isAgg188
  z53 := Tryz.sizeOf188
  v53 := Tryz.zeroValue188
  t57 := Tryz.underlying192
  a57 := Tryz.isAgg192
  z57 := Tryz.sizeOf192
  v57 := Tryz.zeroValue192
  t63 := Tryz.underlying200
  a63 := Tryz.isAgg200
  z63 := Tryz.sizeOf200
  v63 := Tryz.zeroValue200
  t64 := Tryz.underlying201
  a64 := Tryz.isAgg201
  z64 := Tryz.sizeOf201
  v64 := Tryz.zeroValue201 }
open Go.RowKit Go.Maps Go.Sort in
theorem Tryz.sorts51 (m : Nat) : AnyZ.SortsIn Tryz.prog Tryz.sorted51_ren Fence.wide m :=
  ⟨fun blk off cap ss W hH hblk hsz => callsIn_wide.2 (AnyM.slices_Sort_string Tryz.sort76 blk off cap ss W hH hblk hsz),
   fun p cap W => callsIn_wide.2 (AnyM.slices_Sort_string_none Tryz.sort76 p cap W)⟩
open Go.RowKit Go.Maps Go.Sort in
theorem Tryz.maps_Keys_30 (mb : Option Nat) (W : World) : CallsIn Fence.wide 5 Tryz.prog 30 #[.map mb] W fun e w' => e = .returned (.func (.func 56) #[] #[.pointer (some ⟨W.heap.size, 0, none⟩)]) ∧ w' = W.alloc (.cells #[.map mb] 89) :=
  AnyZ.keys_in Tryz.keys30 Fence.wide 5 trivial rfl mb W
open Go.RowKit Go.Maps Go.Sort in
theorem Tryz.slices_Sorted_keys_51_30 {H : Type} (b nn : Nat) (D0 : DataW H) (R : Value → Option (DataW H × List MemPlace)) (w : World) (hown : w.ownsMap Tryz.prog 9 R b nn D0) (hmax : Maps.size D0 ≤ maxLen) (hbytes : Maps.size D0 * 16 ≤ 140737488355328) :
    CallsIn Fence.wide 5 Tryz.prog 51 #[.func (.func 56) #[] #[.pointer (some ⟨w.heap.size, 0, none⟩)]] (w.alloc (.cells #[.map (some b)] 89)) fun e w' => ∃ (v : Value) (ss : List (List UInt8)), e = .returned v ∧ ss.Perm (strKeys D0) ∧
      w'.ownsRow (w.alloc (.cells #[.map (some b)] 89)).heap.size 9 1 v ss.length ((ss.mergeSort (fun x y => decide (x ≤ y))).map encStr) ∧ (v = .slice none 0 0 ↔ ss = []) ∧ Below (w.alloc (.cells #[.map (some b)] 89)).heap.size (w.alloc (.cells #[.map (some b)] 89)) w' := by
  have hbl := hown.lt
  have hseq : SeqGives Fence.wide 2 Tryz.prog 56 #[.pointer (some ⟨w.heap.size, 0, none⟩)] encStr (fun ss => ss.Perm (strKeys D0)) (Maps.size D0) (w.alloc (.cells #[.map (some b)] 89)) :=
    AnyZ.keys_gives (ρ := Tryz.keys30_ren) { Tryz.keys30 with } Fence.wide _ trivial rfl (by omega) w.heap.size b nn D0 _ (by simp) (by simp) (by
      obtain ⟨es, clock, hb, Ft, hs, hD⟩ := hown
      exact ⟨es, clock, (Below.heap_alloc _ _ b hbl).trans hb, Ft, hs, hD⟩)
  exact AnyZ.sorted_in Tryz.sorted51 Fence.wide 5 trivial trivial trivial trivial rfl (by omega) (Tryz.sorts51 _) (enters_of Tryz.func76 (by kernel_rfl) rfl) 56 #[.pointer (some ⟨w.heap.size, 0, none⟩)] trivial (enters_of Tryz.func56 (by kernel_rfl) rfl) _ _ hmax hbytes _ hseq
open Go.RowKit Go.Maps Go.Sort in
theorem Tryz.slices_Sorted_keys_nil_51_30 (w : World) :
    CallsIn Fence.wide 5 Tryz.prog 51 #[.func (.func 56) #[] #[.pointer (some ⟨w.heap.size, 0, none⟩)]] (w.alloc (.cells #[.map none] 89)) fun e w' => ∃ (v : Value) (ss : List (List UInt8)), e = .returned v ∧ ss = [] ∧
      w'.ownsRow (w.alloc (.cells #[.map none] 89)).heap.size 9 1 v ss.length ((ss.mergeSort (fun x y => decide (x ≤ y))).map encStr) ∧ (v = .slice none 0 0 ↔ ss = []) ∧ Below (w.alloc (.cells #[.map none] 89)).heap.size (w.alloc (.cells #[.map none] 89)) w' := by
  have hseq : SeqGives Fence.wide 2 Tryz.prog 56 #[.pointer (some ⟨w.heap.size, 0, none⟩)] encStr (fun ss : List (List UInt8) => ss = []) 0 (w.alloc (.cells #[.map none] 89)) :=
    AnyZ.keys_gives_nil (ρ := Tryz.keys30_ren) { Tryz.keys30 with } Fence.wide _ trivial rfl w.heap.size _ (by simp) (by simp)
  exact AnyZ.sorted_in Tryz.sorted51 Fence.wide 5 trivial trivial trivial trivial rfl (by omega) (Tryz.sorts51 _) (enters_of Tryz.func76 (by kernel_rfl) rfl) 56 #[.pointer (some ⟨w.heap.size, 0, none⟩)] trivial (enters_of Tryz.func56 (by kernel_rfl) rfl) _ 0 (Nat.zero_le _) (by omega) _ hseq
def Tryz.keys53_ren : Go.Shelf.Ren := ⟨fun | 7 => 53 | 10 => 78 | n => n, fun | 23 => 77 | 26 => 9 | 3 => 37 | 28 => 87 | 0 => 0 | 27 => 86 | 33 => 118 | 4 => 4 | n => n, fun | n => n⟩
theorem Tryz.keys53 : Go.Proofs.SlLaysZ.n7 Tryz.prog Tryz.keys53_ren := {
  mixed := by kernel_rfl
  f7 := ⟨Tryz.f53.name, by decide, Tryz.func53.trans (congrArg some (by kernel_rfl))⟩
  f10 := ⟨Tryz.f78.name, by decide, Tryz.func78.trans (congrArg some (by kernel_rfl))⟩
  t0 := Tryz.underlying0
  a0 := Tryz.isAgg0
  z0 := Tryz.sizeOf0
  v0 := Tryz.zeroValue0
  t4 := Tryz.underlying4
  a4 := Tryz.isAgg4
  z4 := Tryz.sizeOf4
  v4 := Tryz.zeroValue4
  t23 := Tryz.underlying77
  a23 := Tryz.isAgg77
  z23 := Tryz.sizeOf77
  v23 := Tryz.zeroValue77
  t26 := Tryz.underlying9
  a26 := Tryz.isAgg9
  z26 := Tryz.sizeOf9
  v26 := Tryz.zeroValue9
  t27 := Tryz.underlying86
  a27 := Tryz.isAgg86
  z27 := Tryz.sizeOf86
  v27 := Tryz.zeroValue86
  t28 := Tryz.underlying87
  a28 := Tryz.isAgg87
  z28 := Tryz.sizeOf87
  v28 := Tryz.zeroValue87
  t33 := Tryz.underlying118
  a33 := Tryz.isAgg118
  z33 := Tryz.sizeOf118
  v33 := Tryz.zeroValue118 }
open Go.RowKit Go.Maps Go.Sort in
theorem Tryz.maps_Keys_53 (mb : Option Nat) (W : World) : CallsIn Fence.wide 5 Tryz.prog 53 #[.map mb] W fun e w' => e = .returned (.func (.func 78) #[] #[.pointer (some ⟨W.heap.size, 0, none⟩)]) ∧ w' = W.alloc (.cells #[.map mb] 77) :=
  AnyZ.keys_in Tryz.keys53 Fence.wide 5 trivial rfl mb W
open Go.RowKit Go.Maps Go.Sort in
theorem Tryz.slices_Sorted_keys_51_53 {H : Type} (b nn : Nat) (D0 : DataW H) (R : Value → Option (DataW H × List MemPlace)) (w : World) (hown : w.ownsMap Tryz.prog 9 R b nn D0) (hmax : Maps.size D0 ≤ maxLen) (hbytes : Maps.size D0 * 16 ≤ 140737488355328) :
    CallsIn Fence.wide 5 Tryz.prog 51 #[.func (.func 78) #[] #[.pointer (some ⟨w.heap.size, 0, none⟩)]] (w.alloc (.cells #[.map (some b)] 77)) fun e w' => ∃ (v : Value) (ss : List (List UInt8)), e = .returned v ∧ ss.Perm (strKeys D0) ∧
      w'.ownsRow (w.alloc (.cells #[.map (some b)] 77)).heap.size 9 1 v ss.length ((ss.mergeSort (fun x y => decide (x ≤ y))).map encStr) ∧ (v = .slice none 0 0 ↔ ss = []) ∧ Below (w.alloc (.cells #[.map (some b)] 77)).heap.size (w.alloc (.cells #[.map (some b)] 77)) w' := by
  have hbl := hown.lt
  have hseq : SeqGives Fence.wide 2 Tryz.prog 78 #[.pointer (some ⟨w.heap.size, 0, none⟩)] encStr (fun ss => ss.Perm (strKeys D0)) (Maps.size D0) (w.alloc (.cells #[.map (some b)] 77)) :=
    AnyZ.keys_gives (ρ := Tryz.keys53_ren) { Tryz.keys53 with } Fence.wide _ trivial rfl (by omega) w.heap.size b nn D0 _ (by simp) (by simp) (by
      obtain ⟨es, clock, hb, Ft, hs, hD⟩ := hown
      exact ⟨es, clock, (Below.heap_alloc _ _ b hbl).trans hb, Ft, hs, hD⟩)
  exact AnyZ.sorted_in Tryz.sorted51 Fence.wide 5 trivial trivial trivial trivial rfl (by omega) (Tryz.sorts51 _) (enters_of Tryz.func76 (by kernel_rfl) rfl) 78 #[.pointer (some ⟨w.heap.size, 0, none⟩)] trivial (enters_of Tryz.func78 (by kernel_rfl) rfl) _ _ hmax hbytes _ hseq
open Go.RowKit Go.Maps Go.Sort in
theorem Tryz.slices_Sorted_keys_nil_51_53 (w : World) :
    CallsIn Fence.wide 5 Tryz.prog 51 #[.func (.func 78) #[] #[.pointer (some ⟨w.heap.size, 0, none⟩)]] (w.alloc (.cells #[.map none] 77)) fun e w' => ∃ (v : Value) (ss : List (List UInt8)), e = .returned v ∧ ss = [] ∧
      w'.ownsRow (w.alloc (.cells #[.map none] 77)).heap.size 9 1 v ss.length ((ss.mergeSort (fun x y => decide (x ≤ y))).map encStr) ∧ (v = .slice none 0 0 ↔ ss = []) ∧ Below (w.alloc (.cells #[.map none] 77)).heap.size (w.alloc (.cells #[.map none] 77)) w' := by
  have hseq : SeqGives Fence.wide 2 Tryz.prog 78 #[.pointer (some ⟨w.heap.size, 0, none⟩)] encStr (fun ss : List (List UInt8) => ss = []) 0 (w.alloc (.cells #[.map none] 77)) :=
    AnyZ.keys_gives_nil (ρ := Tryz.keys53_ren) { Tryz.keys53 with } Fence.wide _ trivial rfl w.heap.size _ (by simp) (by simp)
  exact AnyZ.sorted_in Tryz.sorted51 Fence.wide 5 trivial trivial trivial trivial rfl (by omega) (Tryz.sorts51 _) (enters_of Tryz.func76 (by kernel_rfl) rfl) 78 #[.pointer (some ⟨w.heap.size, 0, none⟩)] trivial (enters_of Tryz.func78 (by kernel_rfl) rfl) _ 0 (Nat.zero_le _) (by omega) _ hseq
end Go.Proofs
namespace Go.Ped
open Go.Eng

structure Val where
  kind : Int
  num : Int
  text : ByteArray
  deriving DecidableEq
structure Trm where
  var : ByteArray
  val : Val
  deriving DecidableEq
inductive Exp where
  | mk (op : Int) (term : Trm) (kids : List Exp)
def Exp.op : Exp → Int | .mk o _ _ => o
def Exp.term : Exp → Trm | .mk _ t _ => t
def Exp.kids : Exp → List Exp | .mk _ _ k => k
structure Atm where
  pred : ByteArray
  args : List Trm
structure Ltr where
  kind : Int
  atom : Atm
  rel : Int
  left : Exp
  right : Exp
structure Agr where
  agg : Int
  term : Trm
structure Rul where
  pred : ByteArray
  head : List Agr
  body : List Ltr
structure Edg where
  frm : ByteArray
  to : ByteArray
  kind : Int
  rule : Int
  deriving DecidableEq

def vcs (v : Val) : List Value := [.int .i8 v.kind, .int .i64 v.num, .string v.text]
def tcs (t : Trm) : List Value := .string t.var :: vcs t.val
def rVal : Rl Val where
  sz := 3
  R _ _ cs x := cs = [.int .i8 x.kind, .int .i64 x.num, .string x.text]
  len h := by rw [h]; rfl
  mono h _ _ := h
def rTrm : Rl Trm where
  sz := 4
  R _ _ cs x := cs = [.string x.var, .int .i8 x.val.kind, .int .i64 x.val.num, .string x.val.text]
  len h := by rw [h]; rfl
  mono h _ _ := h
def rAgr : Rl Agr where
  sz := 5
  R _ _ cs x := cs = [.int .i8 x.agg, .string x.term.var, .int .i8 x.term.val.kind, .int .i64 x.term.val.num, .string x.term.val.text]
  len h := by rw [h]; rfl
  mono h _ _ := h
def rEdg : Rl Edg where
  sz := 4
  R _ _ cs x := cs = [.string x.frm, .string x.to, .int .i8 x.kind, .int .i64 x.rule]
  len h := by rw [h]; rfl
  mono h _ _ := h
/-- An expression nested at most n deep. -/
def rExpN : Nat → Rl Exp
  | 0 => { sz := 6, R := fun _ _ _ _ => False, len := fun h => h.elim, mono := fun h _ _ => h }
  | n + 1 => {
    sz := 6
    R := fun Z w cs x => ∃ kv, cs = [.int .i8 x.op, .string x.term.var, .int .i8 x.term.val.kind, .int .i64 x.term.val.num, .string x.term.val.text, kv] ∧ (rExpN n).sl Z w kv x.kids
    len := by rintro _ _ _ _ ⟨kv, rfl, _⟩; rfl
    mono := by rintro _ _ _ _ _ _ ⟨kv, rfl, h⟩ hz hw; exact ⟨kv, rfl, Rl.sl_mono h hz hw⟩ }
theorem rExpN_sz (n : Nat) : (rExpN n).sz = 6 := by cases n <;> rfl
theorem rExpN_up {Z : Nat → Prop} {w : World} : ∀ {n : Nat} {cs : List Value} {x : Exp}, (rExpN n).R Z w cs x → (rExpN (n + 1)).R Z w cs x
  | 0, _, _, h => h.elim
  | n + 1, cs, x, ⟨kv, e, A, c, h1, h2, h3⟩ => ⟨kv, e, A, c, h1, h2, fun i y hy => by
      obtain ⟨ad, cs, e, hr, hR⟩ := h3 i y hy
      exact ⟨ad, cs, e, by rw [rExpN_sz] at hr ⊢; exact hr, rExpN_up hR⟩⟩
theorem rExpN_le {Z : Nat → Prop} {w : World} {n m : Nat} {cs : List Value} {x : Exp} (h : n ≤ m) (hR : (rExpN n).R Z w cs x) : (rExpN m).R Z w cs x := by
  induction h with
  | refl => exact hR
  | step _ ih => exact rExpN_up ih
/-- An expression, by its own depth. -/
def rExp : Rl Exp where
  sz := 6
  R Z w cs x := ∃ kv, cs = [.int .i8 x.op, .string x.term.var, .int .i8 x.term.val.kind, .int .i64 x.term.val.num, .string x.term.val.text, kv] ∧ ∃ n, (rExpN n).sl Z w kv x.kids
  len := by rintro _ _ _ _ ⟨kv, rfl, _⟩; rfl
  mono := by rintro _ _ _ _ _ _ ⟨kv, rfl, n, h⟩ hz hw; exact ⟨kv, rfl, n, Rl.sl_mono h hz hw⟩
theorem rExp_sl {Z : Nat → Prop} {w : World} {n : Nat} {v : Value} {xs : List Exp} (h : (rExpN n).sl Z w v xs) : rExp.sl Z w v xs := by
  obtain ⟨A, c, h1, h2, h3⟩ := h
  refine ⟨A, c, h1, h2, fun i y hy => ?_⟩
  obtain ⟨ad, cs, e, hr, hR⟩ := h3 i y hy
  rw [rExpN_sz] at hr
  refine ⟨ad, cs, e, hr, ?_⟩
  cases n with
  | zero => exact hR.elim
  | succ n =>
    obtain ⟨kv, e, hk⟩ := hR
    exact ⟨kv, e, n, hk⟩
theorem rExp_kids {Z : Nat → Prop} {w : World} {cs : List Value} {x : Exp} (h : rExp.R Z w cs x) : ∃ kv, cs = [.int .i8 x.op, .string x.term.var, .int .i8 x.term.val.kind, .int .i64 x.term.val.num, .string x.term.val.text, kv] ∧ rExp.sl Z w kv x.kids := by
  obtain ⟨kv, e, n, hk⟩ := h
  exact ⟨kv, e, rExp_sl hk⟩
def rLtr : Rl Ltr where
  sz := 16
  R Z w cs x := ∃ av lk rk, cs = [.int .i8 x.kind, .string x.atom.pred, av, .int .i8 x.rel, .int .i8 x.left.op, .string x.left.term.var, .int .i8 x.left.term.val.kind, .int .i64 x.left.term.val.num, .string x.left.term.val.text, lk,
      .int .i8 x.right.op, .string x.right.term.var, .int .i8 x.right.term.val.kind, .int .i64 x.right.term.val.num, .string x.right.term.val.text, rk] ∧ rTrm.sl Z w av x.atom.args ∧ rExp.sl Z w lk x.left.kids ∧ rExp.sl Z w rk x.right.kids
  len := by rintro _ _ _ _ ⟨_, _, _, rfl, _⟩; rfl
  mono := by rintro _ _ _ _ _ _ ⟨a, b, c, rfl, h1, h2, h3⟩ hz hw; exact ⟨a, b, c, rfl, Rl.sl_mono h1 hz hw, Rl.sl_mono h2 hz hw, Rl.sl_mono h3 hz hw⟩
def rRul : Rl Rul where
  sz := 3
  R Z w cs x := ∃ hv bv, cs = [.string x.pred, hv, bv] ∧ rAgr.sl Z w hv x.head ∧ rLtr.sl Z w bv x.body
  len := by rintro _ _ _ _ ⟨_, _, rfl, _⟩; rfl
  mono := by rintro _ _ _ _ _ _ ⟨a, b, rfl, h1, h2⟩ hz hw; exact ⟨a, b, rfl, Rl.sl_mono h1 hz hw, Rl.sl_mono h2 hz hw⟩
end Go.Ped
set_option linter.unusedVariables false
set_option maxRecDepth 20000
namespace Go.Ped
open Go Go.Eng Go.RowKit Go.Proofs

theorem tf67_0 : fieldB Tryz.prog 67 0 = some 0 := by kernel_rfl
theorem ta65 : aggB Tryz.prog 65 = some false := by kernel_rfl
theorem tf67_2 : fieldB Tryz.prog 67 2 = some 2 := by kernel_rfl
theorem ta9 : aggB Tryz.prog 9 = some false := by kernel_rfl
theorem tf67_1 : fieldB Tryz.prog 67 1 = some 1 := by kernel_rfl
theorem ta2 : aggB Tryz.prog 2 = some false := by kernel_rfl
theorem tu9 : Tryz.prog.underlying 9 = some (.string) := by kernel_rfl
def chkVal (v : Val) : Bool := (decide (v.kind = 1) && decide (v.text = ⟨#[]⟩)) || (decide (v.kind = 2) && (decide (v.num = 0) && decide ((v.text.size : Int) ≤ 200)))
    def errn (b : Bool) (n : Int) : Int := if b then 0 else n
theorem value_Check_spec {Z : Nat → Prop} {w0 w : World} {L : List Res} (st : St Z w0 w L) (v : Val) : Calls Tryz.prog 134 #[(.agg #[(.int .i8 (v.kind)), (.int .i64 (v.num)), (.string v.text)])] w (Ret fun r w' => r = .int .i64 (errn (chkVal v) 10) ∧ St Z w0 w' L) := by
 refine calls_of_WC (m := 21) (rs := [.tmp 2]) Tryz.func134 rfl rfl rfl rfl ?_
 refine Wsr ?_
 refine W1 (OpT.box st (.agg #[(.int .i8 (v.kind)), (.int .i64 (v.num)), (.string v.text)]) [(.int .i8 (v.kind)), (.int .i64 (v.num)), (.string v.text)] rfl rfl (fun b1 w2 st3 => ?_))
 refine W1 (OpT.assign (ii 0) rfl ?_)
 refine Wnt ?_
 refine WC.seq ?_
 refine Wsr ?_
 refine W1 (OpT.field 0 ⟨b1, 0, none⟩ ⟨b1, 0, none⟩ tf67_0 rfl rfl ?_)
 refine W1 (OpT.loadS ⟨b1, 0, none⟩ (.int .i8 (v.kind)) ta65 rfl (st3.cellB (i := 0) rfl rfl) ?_)
 refine Wnt ?_
 refine WC.block ?_
 refine Wsr ?_
 refine W1 (OpT.ieq .i8 (v.kind) (1) rfl rfl ?_)
 refine W1 (OpT.assign (.bool (decide (v.kind = 1))) rfl ?_)
 refine Wnt ?_
 refine WC.condP (v.kind = 1) rfl (fun h4 => ?_) (fun h4 => ?_)
 ·refine WC.seq ?_
  refine WC.region ?_
  refine W1 (OpT.field 2 ⟨b1, 0, none⟩ ⟨b1, 2, none⟩ tf67_2 rfl rfl ?_)
  refine W1 (OpT.loadS ⟨b1, 2, none⟩ (.string v.text) ta9 rfl (st3.cellB (i := 0) rfl rfl) ?_)
  refine W1 (OpT.seq (v.text) ((⟨#[]⟩ : ByteArray)) rfl rfl ?_)
  refine Wnt ?_
  refine WC.condP (v.text = (⟨#[]⟩ : ByteArray)) rfl (fun h5 => ?_) (fun h5 => ?_)
  ·refine WC.seq ?_
   refine WC.region ?_
   refine W1 (OpT.assign (ii 0) rfl ?_)
   refine Wnt ?_
   refine WC.ret <| blkQ_r <| thenQ_r <| retQ.one (ii 0) rfl ?_
   exact ⟨_, rfl, by simp [chkVal, errn, *], (St.selT [Blk b1 67 [(.int .i8 (v.kind)), (.int .i64 (v.num)), (.string v.text)]] [] rfl (by decide) st3)⟩
  refine WC.skip ?_
  refine blkQ_n ?_
  refine thenQ_n ?_
  refine Wsr ?_
  refine W1 (OpT.assign (ii 10) rfl ?_)
  refine Wnt ?_
  refine WC.ret <| retQ.one (ii 10) rfl ?_
  exact ⟨_, rfl, by simp [chkVal, errn, *], (St.selT [Blk b1 67 [(.int .i8 (v.kind)), (.int .i64 (v.num)), (.string v.text)]] [] rfl (by decide) st3)⟩
 refine Wsr ?_
 refine W1 (OpT.ieq .i8 (v.kind) (2) rfl rfl ?_)
 refine W1 (OpT.assign (.bool (decide (v.kind = 2))) rfl ?_)
 refine Wnt ?_
 refine WC.condP (v.kind = 2) rfl (fun h6 => ?_) (fun h6 => ?_)
 ·refine WC.seq ?_
  refine WC.region ?_
  refine W1 (OpT.field 1 ⟨b1, 0, none⟩ ⟨b1, 1, none⟩ tf67_1 rfl rfl ?_)
  refine W1 (OpT.loadS ⟨b1, 1, none⟩ (.int .i64 (v.num)) ta2 rfl (st3.cellB (i := 0) rfl rfl) ?_)
  refine W1 (OpT.ieq .i64 (v.num) (0) rfl rfl ?_)
  refine W1 (OpT.move (.bool (decide (v.num = 0))) rfl ?_)
  by_cases h7 : v.num = 0
  ·refine W2 (dj := 15) (bT h7) (OpT.field 2 ⟨b1, 0, none⟩ ⟨b1, 2, none⟩ tf67_2 rfl rfl ?_)
   refine W2 (dj := 15) (bT h7) (OpT.loadS ⟨b1, 2, none⟩ (.string v.text) ta9 rfl (st3.cellB (i := 0) rfl rfl) ?_)
   refine W2 (dj := 15) (bT h7) (OpT.lenStr (v.text) rfl tu9 rfl ?_)
   refine W2 (dj := 15) (bT h7) (OpT.ile .i64 (((v.text.size : Nat) : Int)) (200) rfl rfl ?_)
   refine W1 (OpT.pickT (.bool (decide (((v.text.size : Nat) : Int) ≤ 200))) (bT h7) rfl ?_)
   refine Wnt ?_
   refine WC.condP (((v.text.size : Nat) : Int) ≤ 200) rfl (fun h8 => ?_) (fun h8 => ?_)
   ·refine WC.seq ?_
    refine WC.region ?_
    refine W1 (OpT.assign (ii 0) rfl ?_)
    refine Wnt ?_
    refine WC.ret <| blkQ_r <| thenQ_r <| retQ.one (ii 0) rfl ?_
    exact ⟨_, rfl, by simp [chkVal, errn, *], (St.selT [Blk b1 67 [(.int .i8 (v.kind)), (.int .i64 (v.num)), (.string v.text)]] [] rfl (by decide) st3)⟩
   refine WC.skip ?_
   refine blkQ_n ?_
   refine thenQ_n ?_
   refine Wsr ?_
   refine W1 (OpT.assign (ii 10) rfl ?_)
   refine Wnt ?_
   refine WC.ret <| retQ.one (ii 10) rfl ?_
   exact ⟨_, rfl, by simp [chkVal, errn, *], (St.selT [Blk b1 67 [(.int .i8 (v.kind)), (.int .i64 (v.num)), (.string v.text)]] [] rfl (by decide) st3)⟩
  refine WL.pass (dj := 15) (c := false) rfl rfl rfl (bF h7) rfl ?_
  refine WL.pass (dj := 15) (c := false) rfl rfl rfl (bF h7) rfl ?_
  refine WL.pass (dj := 15) (c := false) rfl rfl rfl (bF h7) rfl ?_
  refine WL.pass (dj := 15) (c := false) rfl rfl rfl (bF h7) rfl ?_
  refine W1 (OpT.pickF (.bool false) (bF h7) rfl ?_)
  refine Wnt ?_
  refine WC.condF rfl ?_
  refine WC.skip ?_
  refine blkQ_n ?_
  refine thenQ_n ?_
  refine Wsr ?_
  refine W1 (OpT.assign (ii 10) rfl ?_)
  refine Wnt ?_
  refine WC.ret <| retQ.one (ii 10) rfl ?_
  exact ⟨_, rfl, by simp [chkVal, errn, *], (St.selT [Blk b1 67 [(.int .i8 (v.kind)), (.int .i64 (v.num)), (.string v.text)]] [] rfl (by decide) st3)⟩
 refine WC.skip ?_
 refine blkQ_n ?_
 refine thenQ_n ?_
 refine Wsr ?_
 refine W1 (OpT.assign (ii 10) rfl ?_)
 refine Wnt ?_
 refine WC.ret <| retQ.one (ii 10) rfl ?_
 exact ⟨_, rfl, by simp [chkVal, errn, *], (St.selT [Blk b1 67 [(.int .i8 (v.kind)), (.int .i64 (v.num)), (.string v.text)]] [] rfl (by decide) st3)⟩

end Go.Ped
set_option linter.unusedVariables false
set_option maxRecDepth 20000
namespace Go.Ped
open Go Go.Eng Go.RowKit Go.Proofs

theorem tu194 : Tryz.prog.underlying 194 = some (.slice 5) := by kernel_rfl
theorem tu5 : Tryz.prog.underlying 5 = some (.int .u8) := by kernel_rfl
theorem ts5 : sizeB Tryz.prog 5 = some 1 := by kernel_rfl
theorem ta5 : aggB Tryz.prog 5 = some false := by kernel_rfl
def ltrB (c : Int) : Bool := !((decide (c < 97) || decide (122 < c)) && (decide (c < 65) || decide (90 < c)) && (decide (c < 48) || decide (57 < c)) && decide (c ≠ 95))
    def wordB (s : ByteArray) (a z : Int) : Bool := !(decide ((s.size : Int) = 0) || decide (120 < (s.size : Int)) || decide (byt s 0 < a) || decide (z < byt s 0)) && (List.range s.size).all (fun k => ltrB (byt s k))
    theorem all_range_succ (p : Nat → Bool) (k : Nat) : (List.range (k + 1)).all p = ((List.range k).all p && p k) := by rw [List.range_succ, List.all_append]; simp
    theorem all_range_false (p : Nat → Bool) (k n : Nat) (hk : k < n) (h : p k = false) : (List.range n).all p = false := by
      rw [Bool.eq_false_iff]; intro hh
      have := List.all_eq_true.1 hh k (List.mem_range.2 hk)
      rw [h] at this; cases this
theorem word_spec {Z : Nat → Prop} {w0 w : World} {L : List Res} (st : St Z w0 w L) (s : ByteArray) (a z : Int)  : Calls Tryz.prog 105 #[(.string s), (.int .u8 (a)), (.int .u8 (z))] w (Ret fun r w' => r = .bool (wordB s a z) ∧ St Z w0 w' L) := by
 refine calls_of_WC (m := 63) (rs := [.tmp 6]) Tryz.func105 rfl rfl rfl rfl ?_
 refine Wsr ?_
 refine W1 (OpT.assign (.bool false) rfl ?_)
 refine Wnt ?_
 refine WC.seq ?_
 refine Wsr ?_
 refine W1 (OpT.move (.string s) rfl ?_)
 refine W1 (OpT.lenStr (s) rfl tu9 rfl ?_)
 refine W1 (OpT.ieq .i64 (((s.size : Nat) : Int)) (0) rfl rfl ?_)
 refine W1 (OpT.move (.bool (decide (((s.size : Nat) : Int) = 0))) rfl ?_)
 by_cases h1 : ((s.size : Nat) : Int) = 0
 ·refine WL.pass (dj := 12) (c := true) rfl rfl rfl (bT h1) rfl ?_
  refine WL.pass (dj := 12) (c := true) rfl rfl rfl (bT h1) rfl ?_
  refine WL.pass (dj := 12) (c := true) rfl rfl rfl (bT h1) rfl ?_
  refine W1 (OpT.pickT (.bool true) (bT h1) rfl ?_)
  refine W1 (OpT.move (.bool true) rfl ?_)
  refine WL.pass (dj := 17) (c := true) rfl rfl rfl rfl rfl ?_
  refine WL.pass (dj := 17) (c := true) rfl rfl rfl rfl rfl ?_
  refine WL.pass (dj := 17) (c := true) rfl rfl rfl rfl rfl ?_
  refine WL.pass (dj := 17) (c := true) rfl rfl rfl rfl rfl ?_
  refine W1 (OpT.pickT (.bool true) rfl rfl ?_)
  refine W1 (OpT.move (.bool true) rfl ?_)
  refine WL.pass (dj := 23) (c := true) rfl rfl rfl rfl rfl ?_
  refine WL.pass (dj := 23) (c := true) rfl rfl rfl rfl rfl ?_
  refine WL.pass (dj := 23) (c := true) rfl rfl rfl rfl rfl ?_
  refine WL.pass (dj := 23) (c := true) rfl rfl rfl rfl rfl ?_
  refine W1 (OpT.pickT (.bool true) rfl rfl ?_)
  refine Wnt ?_
  refine WC.condT rfl ?_
  refine Wsr ?_
  refine W1 (OpT.assign (.bool false) rfl ?_)
  refine Wnt ?_
  refine WC.ret <| thenQ_r <| retQ.one (.bool false) rfl ?_
  exact ⟨_, rfl, by simp [wordB, *], st⟩
 refine W2 (dj := 12) (bF h1) (OpT.move (.string s) rfl ?_)
 refine W2 (dj := 12) (bF h1) (OpT.lenStr (s) rfl tu9 rfl ?_)
 refine W2 (dj := 12) (bF h1) (OpT.igt .i64 (((s.size : Nat) : Int)) (120) rfl rfl ?_)
 refine W1 (OpT.pickF (.bool (decide (120 < ((s.size : Nat) : Int)))) (bF h1) rfl ?_)
 refine W1 (OpT.move (.bool (decide (120 < ((s.size : Nat) : Int)))) rfl ?_)
 by_cases h2 : 120 < ((s.size : Nat) : Int)
 ·refine WL.pass (dj := 17) (c := true) rfl rfl rfl (bT h2) rfl ?_
  refine WL.pass (dj := 17) (c := true) rfl rfl rfl (bT h2) rfl ?_
  refine WL.pass (dj := 17) (c := true) rfl rfl rfl (bT h2) rfl ?_
  refine WL.pass (dj := 17) (c := true) rfl rfl rfl (bT h2) rfl ?_
  refine W1 (OpT.pickT (.bool true) (bT h2) rfl ?_)
  refine W1 (OpT.move (.bool true) rfl ?_)
  refine WL.pass (dj := 23) (c := true) rfl rfl rfl rfl rfl ?_
  refine WL.pass (dj := 23) (c := true) rfl rfl rfl rfl rfl ?_
  refine WL.pass (dj := 23) (c := true) rfl rfl rfl rfl rfl ?_
  refine WL.pass (dj := 23) (c := true) rfl rfl rfl rfl rfl ?_
  refine W1 (OpT.pickT (.bool true) rfl rfl ?_)
  refine Wnt ?_
  refine WC.condT rfl ?_
  refine Wsr ?_
  refine W1 (OpT.assign (.bool false) rfl ?_)
  refine Wnt ?_
  refine WC.ret <| thenQ_r <| retQ.one (.bool false) rfl ?_
  exact ⟨_, rfl, by simp [wordB, *], st⟩
 refine W2 (dj := 17) (bF h2) (OpT.move (.string s) rfl ?_)
 refine W2 (dj := 17) (bF h2) (OpT.idxStr (s) .i64 (0) tu9 rfl rfl (by omega) ?_)
 refine W2 (dj := 17) (bF h2) (OpT.move (.int .u8 (a)) rfl ?_)
 refine W2 (dj := 17) (bF h2) (OpT.ilt .u8 (byt s 0) (a) rfl rfl ?_)
 refine W1 (OpT.pickF (.bool (decide ((byt s 0) < a))) (bF h2) rfl ?_)
 refine W1 (OpT.move (.bool (decide ((byt s 0) < a))) rfl ?_)
 by_cases h3 : (byt s 0) < a
 ·refine WL.pass (dj := 23) (c := true) rfl rfl rfl (bT h3) rfl ?_
  refine WL.pass (dj := 23) (c := true) rfl rfl rfl (bT h3) rfl ?_
  refine WL.pass (dj := 23) (c := true) rfl rfl rfl (bT h3) rfl ?_
  refine WL.pass (dj := 23) (c := true) rfl rfl rfl (bT h3) rfl ?_
  refine W1 (OpT.pickT (.bool true) (bT h3) rfl ?_)
  refine Wnt ?_
  refine WC.condT rfl ?_
  refine Wsr ?_
  refine W1 (OpT.assign (.bool false) rfl ?_)
  refine Wnt ?_
  refine WC.ret <| thenQ_r <| retQ.one (.bool false) rfl ?_
  exact ⟨_, rfl, by simp [wordB, *], st⟩
 refine W2 (dj := 23) (bF h3) (OpT.move (.string s) rfl ?_)
 refine W2 (dj := 23) (bF h3) (OpT.idxStr (s) .i64 (0) tu9 rfl rfl (by omega) ?_)
 refine W2 (dj := 23) (bF h3) (OpT.move (.int .u8 (z)) rfl ?_)
 refine W2 (dj := 23) (bF h3) (OpT.igt .u8 (byt s 0) (z) rfl rfl ?_)
 refine W1 (OpT.pickF (.bool (decide (z < (byt s 0)))) (bF h3) rfl ?_)
 refine Wnt ?_
 refine WC.condP (z < (byt s 0)) rfl (fun h4 => ?_) (fun h4 => ?_)
 ·refine WC.seq ?_
  refine WC.region ?_
  refine W1 (OpT.assign (.bool false) rfl ?_)
  refine Wnt ?_
  refine WC.ret <| thenQ_r <| retQ.one (.bool false) rfl ?_
  exact ⟨_, rfl, by simp [wordB, *], st⟩
 refine WC.skip ?_
 refine thenQ_n ?_
 refine WC.seq ?_
 refine Wsr ?_
 refine W1 (OpT.move (.string s) rfl ?_)
 refine W1 (OpT.strBytes st (s) tu9 tu194 tu5 rfl (fun b5 c6 w7 st8 => ?_))
 refine W1 (OpT.lenS _ _ _ rfl tu194 rfl ?_)
 refine W1 (OpT.move (ii 0) rfl ?_)
 refine Wnt ?_
 refine WC.block ?_
 refine WC.loop (fun m ρ wz => ∃ (k : Nat), m = s.size - k ∧ k ≤ s.size ∧ Hid ((List.range k).all (fun k => ltrB (byt s k)) = true) ∧ ρ 32 = (ni k) ∧ ρ 30 = (.slice (some ⟨b5, 0, none⟩) s.size c6) ∧ ρ 31 = (ni (s.size)) ∧ St Z w0 wz (Byt b5 5 s :: L)) _ ⟨0, rfl, by omega, rfl, rfl, rfl, rfl, st8⟩ ?_
 rintro m9 ρ10 w11 ⟨k, hm17, hp13, HP, hs14, hs15, hs16, st12⟩
 have b0 := byt_nn s k
 have b1 := byt_lt s k
 refine Wsr ?_
 refine W1 (OpT.ilt .i64 (((k : Nat) : Int)) (((s.size : Nat) : Int)) hs14 hs16 ?_)
 refine Wnt ?_
 refine WC.seq ?_
 refine WC.condP (((k : Nat) : Int) < ((s.size : Nat) : Int)) rfl (fun h18 => ?_) (fun h18 => ?_)
 ·refine WC.skip ?_
  refine thenQ_n ?_
  refine WC.seq ?_
  refine WC.block ?_
  refine Wsr ?_
  refine W1 (OpT.idx 1 ⟨b5, 0, none⟩ ((⟨b5, 0, none⟩ : Addr).add k) _ _ .i64 (((k : Nat) : Int)) tu194 ts5 hs15 hs14 (by omega) (by omega) (by simp) ?_)
  refine W1 (OpT.loadS ((⟨b5, 0, none⟩ : Addr).add k) (.int .u8 (byt s k)) ta5 rfl (st12.byt (i := 0) rfl (by omega)) ?_)
  refine W1 (OpT.assign (.int .u8 (byt s k)) rfl ?_)
  refine Wns ?_
  refine W1 (OpT.move (.int .u8 (byt s k)) rfl ?_)
  refine W1 (OpT.ilt .u8 (byt s k) (97) rfl rfl ?_)
  refine W1 (OpT.move (.bool (decide ((byt s k) < 97))) rfl ?_)
  by_cases h19 : (byt s k) < 97
  ·refine WL.pass (dj := 38) (c := true) rfl rfl rfl (bT h19) rfl ?_
   refine WL.pass (dj := 38) (c := true) rfl rfl rfl (bT h19) rfl ?_
   refine W1 (OpT.pickT (.bool true) (bT h19) rfl ?_)
   refine W1 (OpT.move (.bool true) rfl ?_)
   refine W2 (dj := 42) rfl (OpT.move (.int .u8 (byt s k)) rfl ?_)
   refine W2 (dj := 42) rfl (OpT.ilt .u8 (byt s k) (65) rfl rfl ?_)
   refine W2 (dj := 42) rfl (OpT.move (.bool (decide ((byt s k) < 65))) rfl ?_)
   by_cases h20 : (byt s k) < 65
   ·refine WL.pass (dj := 45) (c := true) rfl rfl rfl (bT h20) rfl ?_
    refine WL.pass (dj := 45) (c := true) rfl rfl rfl (bT h20) rfl ?_
    refine W2 (dj := 42) rfl (OpT.pickT (.bool true) (bT h20) rfl ?_)
    refine W1 (OpT.pickT (.bool true) rfl rfl ?_)
    refine W1 (OpT.move (.bool true) rfl ?_)
    refine W2 (dj := 50) rfl (OpT.move (.int .u8 (byt s k)) rfl ?_)
    refine W2 (dj := 50) rfl (OpT.ilt .u8 (byt s k) (48) rfl rfl ?_)
    refine W2 (dj := 50) rfl (OpT.move (.bool (decide ((byt s k) < 48))) rfl ?_)
    by_cases h21 : (byt s k) < 48
    ·refine WL.pass (dj := 53) (c := true) rfl rfl rfl (bT h21) rfl ?_
     refine WL.pass (dj := 53) (c := true) rfl rfl rfl (bT h21) rfl ?_
     refine W2 (dj := 50) rfl (OpT.pickT (.bool true) (bT h21) rfl ?_)
     refine W1 (OpT.pickT (.bool true) rfl rfl ?_)
     refine W1 (OpT.move (.bool true) rfl ?_)
     refine W2 (dj := 58) rfl (OpT.move (.int .u8 (byt s k)) rfl ?_)
     refine W2 (dj := 58) rfl (OpT.ine .u8 (byt s k) (95) rfl rfl ?_)
     refine W1 (OpT.pickT (.bool (decide ((byt s k) ≠ 95))) rfl rfl ?_)
     refine Wnt ?_
     refine WC.condP ((byt s k) ≠ 95) rfl (fun h22 => ?_) (fun h22 => ?_)
     ·refine WC.seq ?_
      refine WC.region ?_
      refine W1 (OpT.assign (.bool false) rfl ?_)
      refine Wnt ?_
      refine WC.ret <| blkQ_r <| thenQ_r <| loopQ_r <| blkQ_r <| thenQ_r <| retQ.one (.bool false) rfl ?_
      exact ⟨_, rfl, by rw [wordB, all_range_false _ k _ (by omega) (by simp [ltrB]; omega)]; simp, (St.selT [Byt b5 5 s] [] rfl (by decide) st12)⟩
     refine WC.skip ?_
     refine blkQ_n ?_
     refine thenQ_n ?_
     refine WC.region ?_
     refine W1 (OpT.iadd .i64 (((k : Nat) : Int)) (1) (((k + 1 : Nat) : Int)) hs14 rfl (wadd (a := k) (b := 1) (by omega)) ?_)
     refine W1 (OpT.move (ni (k + 1)) rfl ?_)
     refine WL.nil ?_
     exact loopQ_n _ (by omega) ⟨k + 1, rfl, by omega, by unfold Hid; rw [all_range_succ, HP.out]; simp [ltrB]; omega, rfl, hs15, hs16, st12⟩
    refine W2 (dj := 53) (bF h21) (OpT.move (.int .u8 (byt s k)) rfl ?_)
    refine W2 (dj := 53) (bF h21) (OpT.igt .u8 (byt s k) (57) rfl rfl ?_)
    refine W2 (dj := 50) rfl (OpT.pickF (.bool (decide (57 < (byt s k)))) (bF h21) rfl ?_)
    refine W1 (OpT.pickT (.bool (decide (57 < (byt s k)))) rfl rfl ?_)
    refine W1 (OpT.move (.bool (decide (57 < (byt s k)))) rfl ?_)
    by_cases h23 : 57 < (byt s k)
    ·refine W2 (dj := 58) (bT h23) (OpT.move (.int .u8 (byt s k)) rfl ?_)
     refine W2 (dj := 58) (bT h23) (OpT.ine .u8 (byt s k) (95) rfl rfl ?_)
     refine W1 (OpT.pickT (.bool (decide ((byt s k) ≠ 95))) (bT h23) rfl ?_)
     refine Wnt ?_
     refine WC.condP ((byt s k) ≠ 95) rfl (fun h24 => ?_) (fun h24 => ?_)
     ·refine WC.seq ?_
      refine WC.region ?_
      refine W1 (OpT.assign (.bool false) rfl ?_)
      refine Wnt ?_
      refine WC.ret <| blkQ_r <| thenQ_r <| loopQ_r <| blkQ_r <| thenQ_r <| retQ.one (.bool false) rfl ?_
      exact ⟨_, rfl, by rw [wordB, all_range_false _ k _ (by omega) (by simp [ltrB]; omega)]; simp, (St.selT [Byt b5 5 s] [] rfl (by decide) st12)⟩
     refine WC.skip ?_
     refine blkQ_n ?_
     refine thenQ_n ?_
     refine WC.region ?_
     refine W1 (OpT.iadd .i64 (((k : Nat) : Int)) (1) (((k + 1 : Nat) : Int)) hs14 rfl (wadd (a := k) (b := 1) (by omega)) ?_)
     refine W1 (OpT.move (ni (k + 1)) rfl ?_)
     refine WL.nil ?_
     exact loopQ_n _ (by omega) ⟨k + 1, rfl, by omega, by unfold Hid; rw [all_range_succ, HP.out]; simp [ltrB]; omega, rfl, hs15, hs16, st12⟩
    refine WL.pass (dj := 58) (c := false) rfl rfl rfl (bF h23) rfl ?_
    refine WL.pass (dj := 58) (c := false) rfl rfl rfl (bF h23) rfl ?_
    refine W1 (OpT.pickF (.bool false) (bF h23) rfl ?_)
    refine Wnt ?_
    refine WC.condF rfl ?_
    refine WC.skip ?_
    refine blkQ_n ?_
    refine thenQ_n ?_
    refine WC.region ?_
    refine W1 (OpT.iadd .i64 (((k : Nat) : Int)) (1) (((k + 1 : Nat) : Int)) hs14 rfl (wadd (a := k) (b := 1) (by omega)) ?_)
    refine W1 (OpT.move (ni (k + 1)) rfl ?_)
    refine WL.nil ?_
    exact loopQ_n _ (by omega) ⟨k + 1, rfl, by omega, by unfold Hid; rw [all_range_succ, HP.out]; simp [ltrB]; omega, rfl, hs15, hs16, st12⟩
   refine W2 (dj := 45) (bF h20) (OpT.move (.int .u8 (byt s k)) rfl ?_)
   refine W2 (dj := 45) (bF h20) (OpT.igt .u8 (byt s k) (90) rfl rfl ?_)
   refine W2 (dj := 42) rfl (OpT.pickF (.bool (decide (90 < (byt s k)))) (bF h20) rfl ?_)
   refine W1 (OpT.pickT (.bool (decide (90 < (byt s k)))) rfl rfl ?_)
   refine W1 (OpT.move (.bool (decide (90 < (byt s k)))) rfl ?_)
   by_cases h25 : 90 < (byt s k)
   ·refine W2 (dj := 50) (bT h25) (OpT.move (.int .u8 (byt s k)) rfl ?_)
    refine W2 (dj := 50) (bT h25) (OpT.ilt .u8 (byt s k) (48) rfl rfl ?_)
    refine W2 (dj := 50) (bT h25) (OpT.move (.bool (decide ((byt s k) < 48))) rfl ?_)
    by_cases h26 : (byt s k) < 48
    ·refine WL.pass (dj := 53) (c := true) rfl rfl rfl (bT h26) rfl ?_
     refine WL.pass (dj := 53) (c := true) rfl rfl rfl (bT h26) rfl ?_
     refine W2 (dj := 50) (bT h25) (OpT.pickT (.bool true) (bT h26) rfl ?_)
     refine W1 (OpT.pickT (.bool true) (bT h25) rfl ?_)
     refine W1 (OpT.move (.bool true) rfl ?_)
     refine W2 (dj := 58) rfl (OpT.move (.int .u8 (byt s k)) rfl ?_)
     refine W2 (dj := 58) rfl (OpT.ine .u8 (byt s k) (95) rfl rfl ?_)
     refine W1 (OpT.pickT (.bool (decide ((byt s k) ≠ 95))) rfl rfl ?_)
     refine Wnt ?_
     refine WC.condP ((byt s k) ≠ 95) rfl (fun h27 => ?_) (fun h27 => ?_)
     ·refine WC.seq ?_
      refine WC.region ?_
      refine W1 (OpT.assign (.bool false) rfl ?_)
      refine Wnt ?_
      refine WC.ret <| blkQ_r <| thenQ_r <| loopQ_r <| blkQ_r <| thenQ_r <| retQ.one (.bool false) rfl ?_
      exact ⟨_, rfl, by rw [wordB, all_range_false _ k _ (by omega) (by simp [ltrB]; omega)]; simp, (St.selT [Byt b5 5 s] [] rfl (by decide) st12)⟩
     refine WC.skip ?_
     refine blkQ_n ?_
     refine thenQ_n ?_
     refine WC.region ?_
     refine W1 (OpT.iadd .i64 (((k : Nat) : Int)) (1) (((k + 1 : Nat) : Int)) hs14 rfl (wadd (a := k) (b := 1) (by omega)) ?_)
     refine W1 (OpT.move (ni (k + 1)) rfl ?_)
     refine WL.nil ?_
     exact loopQ_n _ (by omega) ⟨k + 1, rfl, by omega, by unfold Hid; rw [all_range_succ, HP.out]; simp [ltrB]; omega, rfl, hs15, hs16, st12⟩
    refine W2 (dj := 53) (bF h26) (OpT.move (.int .u8 (byt s k)) rfl ?_)
    refine W2 (dj := 53) (bF h26) (OpT.igt .u8 (byt s k) (57) rfl rfl ?_)
    refine W2 (dj := 50) (bT h25) (OpT.pickF (.bool (decide (57 < (byt s k)))) (bF h26) rfl ?_)
    refine W1 (OpT.pickT (.bool (decide (57 < (byt s k)))) (bT h25) rfl ?_)
    refine W1 (OpT.move (.bool (decide (57 < (byt s k)))) rfl ?_)
    by_cases h28 : 57 < (byt s k)
    ·refine W2 (dj := 58) (bT h28) (OpT.move (.int .u8 (byt s k)) rfl ?_)
     refine W2 (dj := 58) (bT h28) (OpT.ine .u8 (byt s k) (95) rfl rfl ?_)
     refine W1 (OpT.pickT (.bool (decide ((byt s k) ≠ 95))) (bT h28) rfl ?_)
     refine Wnt ?_
     refine WC.condP ((byt s k) ≠ 95) rfl (fun h29 => ?_) (fun h29 => ?_)
     ·refine WC.seq ?_
      refine WC.region ?_
      refine W1 (OpT.assign (.bool false) rfl ?_)
      refine Wnt ?_
      refine WC.ret <| blkQ_r <| thenQ_r <| loopQ_r <| blkQ_r <| thenQ_r <| retQ.one (.bool false) rfl ?_
      exact ⟨_, rfl, by rw [wordB, all_range_false _ k _ (by omega) (by simp [ltrB]; omega)]; simp, (St.selT [Byt b5 5 s] [] rfl (by decide) st12)⟩
     refine WC.skip ?_
     refine blkQ_n ?_
     refine thenQ_n ?_
     refine WC.region ?_
     refine W1 (OpT.iadd .i64 (((k : Nat) : Int)) (1) (((k + 1 : Nat) : Int)) hs14 rfl (wadd (a := k) (b := 1) (by omega)) ?_)
     refine W1 (OpT.move (ni (k + 1)) rfl ?_)
     refine WL.nil ?_
     exact loopQ_n _ (by omega) ⟨k + 1, rfl, by omega, by unfold Hid; rw [all_range_succ, HP.out]; simp [ltrB]; omega, rfl, hs15, hs16, st12⟩
    refine WL.pass (dj := 58) (c := false) rfl rfl rfl (bF h28) rfl ?_
    refine WL.pass (dj := 58) (c := false) rfl rfl rfl (bF h28) rfl ?_
    refine W1 (OpT.pickF (.bool false) (bF h28) rfl ?_)
    refine Wnt ?_
    refine WC.condF rfl ?_
    refine WC.skip ?_
    refine blkQ_n ?_
    refine thenQ_n ?_
    refine WC.region ?_
    refine W1 (OpT.iadd .i64 (((k : Nat) : Int)) (1) (((k + 1 : Nat) : Int)) hs14 rfl (wadd (a := k) (b := 1) (by omega)) ?_)
    refine W1 (OpT.move (ni (k + 1)) rfl ?_)
    refine WL.nil ?_
    exact loopQ_n _ (by omega) ⟨k + 1, rfl, by omega, by unfold Hid; rw [all_range_succ, HP.out]; simp [ltrB]; omega, rfl, hs15, hs16, st12⟩
   refine WL.pass (dj := 50) (c := false) rfl rfl rfl (bF h25) rfl ?_
   refine WL.pass (dj := 50) (c := false) rfl rfl rfl (bF h25) rfl ?_
   refine WL.pass (dj := 50) (c := false) rfl rfl rfl (bF h25) rfl ?_
   refine WL.passU (dj := 53) rfl rfl rfl ?_
   refine WL.passU (dj := 53) rfl rfl rfl ?_
   refine WL.pass (dj := 50) (c := false) rfl rfl rfl (bF h25) rfl ?_
   refine W1 (OpT.pickF (.bool false) (bF h25) rfl ?_)
   refine W1 (OpT.move (.bool false) rfl ?_)
   refine WL.pass (dj := 58) (c := false) rfl rfl rfl rfl rfl ?_
   refine WL.pass (dj := 58) (c := false) rfl rfl rfl rfl rfl ?_
   refine W1 (OpT.pickF (.bool false) rfl rfl ?_)
   refine Wnt ?_
   refine WC.condF rfl ?_
   refine WC.skip ?_
   refine blkQ_n ?_
   refine thenQ_n ?_
   refine WC.region ?_
   refine W1 (OpT.iadd .i64 (((k : Nat) : Int)) (1) (((k + 1 : Nat) : Int)) hs14 rfl (wadd (a := k) (b := 1) (by omega)) ?_)
   refine W1 (OpT.move (ni (k + 1)) rfl ?_)
   refine WL.nil ?_
   exact loopQ_n _ (by omega) ⟨k + 1, rfl, by omega, by unfold Hid; rw [all_range_succ, HP.out]; simp [ltrB]; omega, rfl, hs15, hs16, st12⟩
  refine W2 (dj := 38) (bF h19) (OpT.move (.int .u8 (byt s k)) rfl ?_)
  refine W2 (dj := 38) (bF h19) (OpT.igt .u8 (byt s k) (122) rfl rfl ?_)
  refine W1 (OpT.pickF (.bool (decide (122 < (byt s k)))) (bF h19) rfl ?_)
  refine W1 (OpT.move (.bool (decide (122 < (byt s k)))) rfl ?_)
  by_cases h30 : 122 < (byt s k)
  ·refine W2 (dj := 42) (bT h30) (OpT.move (.int .u8 (byt s k)) rfl ?_)
   refine W2 (dj := 42) (bT h30) (OpT.ilt .u8 (byt s k) (65) rfl rfl ?_)
   refine W2 (dj := 42) (bT h30) (OpT.move (.bool (decide ((byt s k) < 65))) rfl ?_)
   by_cases h31 : (byt s k) < 65
   ·refine WL.pass (dj := 45) (c := true) rfl rfl rfl (bT h31) rfl ?_
    refine WL.pass (dj := 45) (c := true) rfl rfl rfl (bT h31) rfl ?_
    refine W2 (dj := 42) (bT h30) (OpT.pickT (.bool true) (bT h31) rfl ?_)
    refine W1 (OpT.pickT (.bool true) (bT h30) rfl ?_)
    refine W1 (OpT.move (.bool true) rfl ?_)
    refine W2 (dj := 50) rfl (OpT.move (.int .u8 (byt s k)) rfl ?_)
    refine W2 (dj := 50) rfl (OpT.ilt .u8 (byt s k) (48) rfl rfl ?_)
    refine W2 (dj := 50) rfl (OpT.move (.bool (decide ((byt s k) < 48))) rfl ?_)
    by_cases h32 : (byt s k) < 48
    ·refine WL.pass (dj := 53) (c := true) rfl rfl rfl (bT h32) rfl ?_
     refine WL.pass (dj := 53) (c := true) rfl rfl rfl (bT h32) rfl ?_
     refine W2 (dj := 50) rfl (OpT.pickT (.bool true) (bT h32) rfl ?_)
     refine W1 (OpT.pickT (.bool true) rfl rfl ?_)
     refine W1 (OpT.move (.bool true) rfl ?_)
     refine W2 (dj := 58) rfl (OpT.move (.int .u8 (byt s k)) rfl ?_)
     refine W2 (dj := 58) rfl (OpT.ine .u8 (byt s k) (95) rfl rfl ?_)
     refine W1 (OpT.pickT (.bool (decide ((byt s k) ≠ 95))) rfl rfl ?_)
     refine Wnt ?_
     refine WC.condP ((byt s k) ≠ 95) rfl (fun h33 => ?_) (fun h33 => ?_)
     ·refine WC.seq ?_
      refine WC.region ?_
      refine W1 (OpT.assign (.bool false) rfl ?_)
      refine Wnt ?_
      refine WC.ret <| blkQ_r <| thenQ_r <| loopQ_r <| blkQ_r <| thenQ_r <| retQ.one (.bool false) rfl ?_
      exact ⟨_, rfl, by rw [wordB, all_range_false _ k _ (by omega) (by simp [ltrB]; omega)]; simp, (St.selT [Byt b5 5 s] [] rfl (by decide) st12)⟩
     refine WC.skip ?_
     refine blkQ_n ?_
     refine thenQ_n ?_
     refine WC.region ?_
     refine W1 (OpT.iadd .i64 (((k : Nat) : Int)) (1) (((k + 1 : Nat) : Int)) hs14 rfl (wadd (a := k) (b := 1) (by omega)) ?_)
     refine W1 (OpT.move (ni (k + 1)) rfl ?_)
     refine WL.nil ?_
     exact loopQ_n _ (by omega) ⟨k + 1, rfl, by omega, by unfold Hid; rw [all_range_succ, HP.out]; simp [ltrB]; omega, rfl, hs15, hs16, st12⟩
    refine W2 (dj := 53) (bF h32) (OpT.move (.int .u8 (byt s k)) rfl ?_)
    refine W2 (dj := 53) (bF h32) (OpT.igt .u8 (byt s k) (57) rfl rfl ?_)
    refine W2 (dj := 50) rfl (OpT.pickF (.bool (decide (57 < (byt s k)))) (bF h32) rfl ?_)
    refine W1 (OpT.pickT (.bool (decide (57 < (byt s k)))) rfl rfl ?_)
    refine W1 (OpT.move (.bool (decide (57 < (byt s k)))) rfl ?_)
    by_cases h34 : 57 < (byt s k)
    ·refine W2 (dj := 58) (bT h34) (OpT.move (.int .u8 (byt s k)) rfl ?_)
     refine W2 (dj := 58) (bT h34) (OpT.ine .u8 (byt s k) (95) rfl rfl ?_)
     refine W1 (OpT.pickT (.bool (decide ((byt s k) ≠ 95))) (bT h34) rfl ?_)
     refine Wnt ?_
     refine WC.condP ((byt s k) ≠ 95) rfl (fun h35 => ?_) (fun h35 => ?_)
     ·refine WC.seq ?_
      refine WC.region ?_
      refine W1 (OpT.assign (.bool false) rfl ?_)
      refine Wnt ?_
      refine WC.ret <| blkQ_r <| thenQ_r <| loopQ_r <| blkQ_r <| thenQ_r <| retQ.one (.bool false) rfl ?_
      exact ⟨_, rfl, by rw [wordB, all_range_false _ k _ (by omega) (by simp [ltrB]; omega)]; simp, (St.selT [Byt b5 5 s] [] rfl (by decide) st12)⟩
     refine WC.skip ?_
     refine blkQ_n ?_
     refine thenQ_n ?_
     refine WC.region ?_
     refine W1 (OpT.iadd .i64 (((k : Nat) : Int)) (1) (((k + 1 : Nat) : Int)) hs14 rfl (wadd (a := k) (b := 1) (by omega)) ?_)
     refine W1 (OpT.move (ni (k + 1)) rfl ?_)
     refine WL.nil ?_
     exact loopQ_n _ (by omega) ⟨k + 1, rfl, by omega, by unfold Hid; rw [all_range_succ, HP.out]; simp [ltrB]; omega, rfl, hs15, hs16, st12⟩
    refine WL.pass (dj := 58) (c := false) rfl rfl rfl (bF h34) rfl ?_
    refine WL.pass (dj := 58) (c := false) rfl rfl rfl (bF h34) rfl ?_
    refine W1 (OpT.pickF (.bool false) (bF h34) rfl ?_)
    refine Wnt ?_
    refine WC.condF rfl ?_
    refine WC.skip ?_
    refine blkQ_n ?_
    refine thenQ_n ?_
    refine WC.region ?_
    refine W1 (OpT.iadd .i64 (((k : Nat) : Int)) (1) (((k + 1 : Nat) : Int)) hs14 rfl (wadd (a := k) (b := 1) (by omega)) ?_)
    refine W1 (OpT.move (ni (k + 1)) rfl ?_)
    refine WL.nil ?_
    exact loopQ_n _ (by omega) ⟨k + 1, rfl, by omega, by unfold Hid; rw [all_range_succ, HP.out]; simp [ltrB]; omega, rfl, hs15, hs16, st12⟩
   refine W2 (dj := 45) (bF h31) (OpT.move (.int .u8 (byt s k)) rfl ?_)
   refine W2 (dj := 45) (bF h31) (OpT.igt .u8 (byt s k) (90) rfl rfl ?_)
   refine W2 (dj := 42) (bT h30) (OpT.pickF (.bool (decide (90 < (byt s k)))) (bF h31) rfl ?_)
   refine W1 (OpT.pickT (.bool (decide (90 < (byt s k)))) (bT h30) rfl ?_)
   refine W1 (OpT.move (.bool (decide (90 < (byt s k)))) rfl ?_)
   by_cases h36 : 90 < (byt s k)
   ·refine W2 (dj := 50) (bT h36) (OpT.move (.int .u8 (byt s k)) rfl ?_)
    refine W2 (dj := 50) (bT h36) (OpT.ilt .u8 (byt s k) (48) rfl rfl ?_)
    refine W2 (dj := 50) (bT h36) (OpT.move (.bool (decide ((byt s k) < 48))) rfl ?_)
    by_cases h37 : (byt s k) < 48
    ·refine WL.pass (dj := 53) (c := true) rfl rfl rfl (bT h37) rfl ?_
     refine WL.pass (dj := 53) (c := true) rfl rfl rfl (bT h37) rfl ?_
     refine W2 (dj := 50) (bT h36) (OpT.pickT (.bool true) (bT h37) rfl ?_)
     refine W1 (OpT.pickT (.bool true) (bT h36) rfl ?_)
     refine W1 (OpT.move (.bool true) rfl ?_)
     refine W2 (dj := 58) rfl (OpT.move (.int .u8 (byt s k)) rfl ?_)
     refine W2 (dj := 58) rfl (OpT.ine .u8 (byt s k) (95) rfl rfl ?_)
     refine W1 (OpT.pickT (.bool (decide ((byt s k) ≠ 95))) rfl rfl ?_)
     refine Wnt ?_
     refine WC.condP ((byt s k) ≠ 95) rfl (fun h38 => ?_) (fun h38 => ?_)
     ·refine WC.seq ?_
      refine WC.region ?_
      refine W1 (OpT.assign (.bool false) rfl ?_)
      refine Wnt ?_
      refine WC.ret <| blkQ_r <| thenQ_r <| loopQ_r <| blkQ_r <| thenQ_r <| retQ.one (.bool false) rfl ?_
      exact ⟨_, rfl, by rw [wordB, all_range_false _ k _ (by omega) (by simp [ltrB]; omega)]; simp, (St.selT [Byt b5 5 s] [] rfl (by decide) st12)⟩
     refine WC.skip ?_
     refine blkQ_n ?_
     refine thenQ_n ?_
     refine WC.region ?_
     refine W1 (OpT.iadd .i64 (((k : Nat) : Int)) (1) (((k + 1 : Nat) : Int)) hs14 rfl (wadd (a := k) (b := 1) (by omega)) ?_)
     refine W1 (OpT.move (ni (k + 1)) rfl ?_)
     refine WL.nil ?_
     exact loopQ_n _ (by omega) ⟨k + 1, rfl, by omega, by unfold Hid; rw [all_range_succ, HP.out]; simp [ltrB]; omega, rfl, hs15, hs16, st12⟩
    refine W2 (dj := 53) (bF h37) (OpT.move (.int .u8 (byt s k)) rfl ?_)
    refine W2 (dj := 53) (bF h37) (OpT.igt .u8 (byt s k) (57) rfl rfl ?_)
    refine W2 (dj := 50) (bT h36) (OpT.pickF (.bool (decide (57 < (byt s k)))) (bF h37) rfl ?_)
    refine W1 (OpT.pickT (.bool (decide (57 < (byt s k)))) (bT h36) rfl ?_)
    refine W1 (OpT.move (.bool (decide (57 < (byt s k)))) rfl ?_)
    by_cases h39 : 57 < (byt s k)
    ·refine W2 (dj := 58) (bT h39) (OpT.move (.int .u8 (byt s k)) rfl ?_)
     refine W2 (dj := 58) (bT h39) (OpT.ine .u8 (byt s k) (95) rfl rfl ?_)
     refine W1 (OpT.pickT (.bool (decide ((byt s k) ≠ 95))) (bT h39) rfl ?_)
     refine Wnt ?_
     refine WC.condP ((byt s k) ≠ 95) rfl (fun h40 => ?_) (fun h40 => ?_)
     ·refine WC.seq ?_
      refine WC.region ?_
      refine W1 (OpT.assign (.bool false) rfl ?_)
      refine Wnt ?_
      refine WC.ret <| blkQ_r <| thenQ_r <| loopQ_r <| blkQ_r <| thenQ_r <| retQ.one (.bool false) rfl ?_
      exact ⟨_, rfl, by rw [wordB, all_range_false _ k _ (by omega) (by simp [ltrB]; omega)]; simp, (St.selT [Byt b5 5 s] [] rfl (by decide) st12)⟩
     refine WC.skip ?_
     refine blkQ_n ?_
     refine thenQ_n ?_
     refine WC.region ?_
     refine W1 (OpT.iadd .i64 (((k : Nat) : Int)) (1) (((k + 1 : Nat) : Int)) hs14 rfl (wadd (a := k) (b := 1) (by omega)) ?_)
     refine W1 (OpT.move (ni (k + 1)) rfl ?_)
     refine WL.nil ?_
     exact loopQ_n _ (by omega) ⟨k + 1, rfl, by omega, by unfold Hid; rw [all_range_succ, HP.out]; simp [ltrB]; omega, rfl, hs15, hs16, st12⟩
    refine WL.pass (dj := 58) (c := false) rfl rfl rfl (bF h39) rfl ?_
    refine WL.pass (dj := 58) (c := false) rfl rfl rfl (bF h39) rfl ?_
    refine W1 (OpT.pickF (.bool false) (bF h39) rfl ?_)
    refine Wnt ?_
    refine WC.condF rfl ?_
    refine WC.skip ?_
    refine blkQ_n ?_
    refine thenQ_n ?_
    refine WC.region ?_
    refine W1 (OpT.iadd .i64 (((k : Nat) : Int)) (1) (((k + 1 : Nat) : Int)) hs14 rfl (wadd (a := k) (b := 1) (by omega)) ?_)
    refine W1 (OpT.move (ni (k + 1)) rfl ?_)
    refine WL.nil ?_
    exact loopQ_n _ (by omega) ⟨k + 1, rfl, by omega, by unfold Hid; rw [all_range_succ, HP.out]; simp [ltrB]; omega, rfl, hs15, hs16, st12⟩
   refine WL.pass (dj := 50) (c := false) rfl rfl rfl (bF h36) rfl ?_
   refine WL.pass (dj := 50) (c := false) rfl rfl rfl (bF h36) rfl ?_
   refine WL.pass (dj := 50) (c := false) rfl rfl rfl (bF h36) rfl ?_
   refine WL.passU (dj := 53) rfl rfl rfl ?_
   refine WL.passU (dj := 53) rfl rfl rfl ?_
   refine WL.pass (dj := 50) (c := false) rfl rfl rfl (bF h36) rfl ?_
   refine W1 (OpT.pickF (.bool false) (bF h36) rfl ?_)
   refine W1 (OpT.move (.bool false) rfl ?_)
   refine WL.pass (dj := 58) (c := false) rfl rfl rfl rfl rfl ?_
   refine WL.pass (dj := 58) (c := false) rfl rfl rfl rfl rfl ?_
   refine W1 (OpT.pickF (.bool false) rfl rfl ?_)
   refine Wnt ?_
   refine WC.condF rfl ?_
   refine WC.skip ?_
   refine blkQ_n ?_
   refine thenQ_n ?_
   refine WC.region ?_
   refine W1 (OpT.iadd .i64 (((k : Nat) : Int)) (1) (((k + 1 : Nat) : Int)) hs14 rfl (wadd (a := k) (b := 1) (by omega)) ?_)
   refine W1 (OpT.move (ni (k + 1)) rfl ?_)
   refine WL.nil ?_
   exact loopQ_n _ (by omega) ⟨k + 1, rfl, by omega, by unfold Hid; rw [all_range_succ, HP.out]; simp [ltrB]; omega, rfl, hs15, hs16, st12⟩
  refine WL.pass (dj := 42) (c := false) rfl rfl rfl (bF h30) rfl ?_
  refine WL.pass (dj := 42) (c := false) rfl rfl rfl (bF h30) rfl ?_
  refine WL.pass (dj := 42) (c := false) rfl rfl rfl (bF h30) rfl ?_
  refine WL.passU (dj := 45) rfl rfl rfl ?_
  refine WL.passU (dj := 45) rfl rfl rfl ?_
  refine WL.pass (dj := 42) (c := false) rfl rfl rfl (bF h30) rfl ?_
  refine W1 (OpT.pickF (.bool false) (bF h30) rfl ?_)
  refine W1 (OpT.move (.bool false) rfl ?_)
  refine WL.pass (dj := 50) (c := false) rfl rfl rfl rfl rfl ?_
  refine WL.pass (dj := 50) (c := false) rfl rfl rfl rfl rfl ?_
  refine WL.pass (dj := 50) (c := false) rfl rfl rfl rfl rfl ?_
  refine WL.passU (dj := 53) rfl rfl rfl ?_
  refine WL.passU (dj := 53) rfl rfl rfl ?_
  refine WL.pass (dj := 50) (c := false) rfl rfl rfl rfl rfl ?_
  refine W1 (OpT.pickF (.bool false) rfl rfl ?_)
  refine W1 (OpT.move (.bool false) rfl ?_)
  refine WL.pass (dj := 58) (c := false) rfl rfl rfl rfl rfl ?_
  refine WL.pass (dj := 58) (c := false) rfl rfl rfl rfl rfl ?_
  refine W1 (OpT.pickF (.bool false) rfl rfl ?_)
  refine Wnt ?_
  refine WC.condF rfl ?_
  refine WC.skip ?_
  refine blkQ_n ?_
  refine thenQ_n ?_
  refine WC.region ?_
  refine W1 (OpT.iadd .i64 (((k : Nat) : Int)) (1) (((k + 1 : Nat) : Int)) hs14 rfl (wadd (a := k) (b := 1) (by omega)) ?_)
  refine W1 (OpT.move (ni (k + 1)) rfl ?_)
  refine WL.nil ?_
  exact loopQ_n _ (by omega) ⟨k + 1, rfl, by omega, by unfold Hid; rw [all_range_succ, HP.out]; simp [ltrB]; omega, rfl, hs15, hs16, st12⟩
 refine WC.exit ?_
 refine thenQ_x ?_
 refine loopQ_x ?_
 refine blkQ_hit ?_
 refine thenQ_n ?_
 refine Wsr ?_
 refine W1 (OpT.assign (.bool true) rfl ?_)
 refine Wnt ?_
 refine WC.ret <| retQ.one (.bool true) rfl ?_
 obtain rfl : k = s.size := by omega
 exact ⟨_, rfl, by have e := HP.out; simp only [wordB, e, decide_eq_false ‹¬(s.size : Int) = 0›, decide_eq_false ‹¬120 < (s.size : Int)›, decide_eq_false ‹¬byt s 0 < a›, decide_eq_false ‹¬z < byt s 0›]; rfl, (St.selT [Byt b5 5 s] [] rfl (by decide) st12)⟩

end Go.Ped
set_option linter.unusedVariables false
set_option maxRecDepth 20000
namespace Go.Ped
open Go Go.Eng Go.RowKit Go.Proofs

theorem ta67 : aggB Tryz.prog 67 = some true := by kernel_rfl
theorem ts67 : sizeB Tryz.prog 67 = some 3 := by kernel_rfl
theorem ta69 : aggB Tryz.prog 69 = some true := by kernel_rfl
theorem ts69 : sizeB Tryz.prog 69 = some 4 := by kernel_rfl
theorem tp69 : placesB Tryz.prog 69 = some [(0, 1), (1, 3)] := by kernel_rfl
theorem tz69 : zeroB Tryz.prog 69 = some (.agg #[(.string (⟨#[]⟩ : ByteArray)), (.int .i8 (0)), (.int .i64 (0)), (.string (⟨#[]⟩ : ByteArray))]) := by kernel_rfl
theorem tg69 : Tryz.prog.eqGuardType Tryz.prog.depth 69 = false := by kernel_rfl
theorem cal105 : CallOk Tryz.prog 105 := ⟨⟨Tryz.f105, Tryz.func105, rfl, by decide⟩⟩
theorem tf69_0 : fieldB Tryz.prog 69 0 = some 0 := by kernel_rfl
theorem tf69_1 : fieldB Tryz.prog 69 1 = some 1 := by kernel_rfl
theorem cal134 : CallOk Tryz.prog 134 := ⟨⟨Tryz.f134, Tryz.func134, rfl, by decide⟩⟩
theorem cal89 : CallOk Tryz.prog 89 := ⟨⟨Tryz.f89, Tryz.func89, rfl, by decide⟩⟩
theorem tp67 : placesB Tryz.prog 67 = some [(0, 1), (1, 1), (2, 1)] := by kernel_rfl
theorem tz67 : zeroB Tryz.prog 67 = some (.agg #[(.int .i8 (0)), (.int .i64 (0)), (.string (⟨#[]⟩ : ByteArray))]) := by kernel_rfl
theorem tg67 : Tryz.prog.eqGuardType Tryz.prog.depth 67 = false := by kernel_rfl
theorem cal125 : CallOk Tryz.prog 125 := ⟨⟨Tryz.f125, Tryz.func125, rfl, by decide⟩⟩
def zVal : Val := ⟨0, 0, ⟨#[]⟩⟩
    def zTrm : Trm := ⟨⟨#[]⟩, zVal⟩
    theorem eqVal (d : Nat) (w : World) (a b : Val) : (Op.equalIn (d + 2) 67 (.agg #[.int .i8 a.kind, .int .i64 a.num, .string a.text]) (.agg #[.int .i8 b.kind, .int .i64 b.num, .string b.text])).run Tryz.prog w = .ok (decide (a = b)) w := by
      have h : decide (a = b) = ((a.kind == b.kind) && ((a.num == b.num) && ((a.text.toList == b.text.toList) && true))) := by
        rw [toList_eq_iff, Bool.eq_iff_iff]
        simp only [decide_eq_true_eq, Bool.and_eq_true, beq_iff_eq, and_true]
        cases a; cases b; simp
      rw [h]
      refine eqs_of Tryz.underlying67 (by kernel_rfl) ?_
      refine eqs_cons (by decide) (run_partS ta65 rfl) (run_partS ta65 rfl) (run_equalIn_int w d 65 .i8 .i8 _ _ (by kernel_rfl)) ?_
      refine eqs_cons (by decide) (run_partS ta2 rfl) (run_partS ta2 rfl) (run_equalIn_int w d 2 .i64 .i64 _ _ (by kernel_rfl)) ?_
      exact eqs_cons (by decide) (run_partS ta9 rfl) (run_partS ta9 rfl) (run_equalIn_string w d 9 _ _ (by kernel_rfl)) eqs_nil
    theorem eqTrm (d : Nat) (w : World) (a b : Trm) : (Op.equalIn (d + 3) 69 (.agg #[.string a.var, .int .i8 a.val.kind, .int .i64 a.val.num, .string a.val.text]) (.agg #[.string b.var, .int .i8 b.val.kind, .int .i64 b.val.num, .string b.val.text])).run Tryz.prog w = .ok (decide (a = b)) w := by
      have h : decide (a = b) = ((a.var.toList == b.var.toList) && ((decide (a.val = b.val)) && true)) := by
        rw [toList_eq_iff, Bool.eq_iff_iff]
        simp only [decide_eq_true_eq, Bool.and_eq_true, and_true]
        cases a; cases b; simp
      rw [h]
      refine eqs_of Tryz.underlying69 (by kernel_rfl) ?_
      refine eqs_cons (by decide) (run_partS ta9 rfl) (run_partS ta9 rfl) (run_equalIn_string w _ 9 _ _ (by kernel_rfl)) ?_
      exact eqs_cons (by decide) (run_partA ta67 ts67) (run_partA ta67 ts67) (eqVal d w a.val b.val) eqs_nil
theorem none_spec {Z : Nat → Prop} {w0 w : World} {L : List Res} (st : St Z w0 w L) (t : Trm) : Calls Tryz.prog 107 #[(.agg #[(.string t.var), (.int .i8 (t.val.kind)), (.int .i64 (t.val.num)), (.string t.val.text)])] w (Ret fun r w' => r = .bool (decide (t = zTrm)) ∧ St Z w0 w' L) := by
 refine calls_of_WC (m := 6) (rs := [.tmp 2]) Tryz.func107 rfl rfl rfl rfl ?_
 refine Wsr ?_
 refine W1 (OpT.box st (.agg #[(.string t.var), (.int .i8 (t.val.kind)), (.int .i64 (t.val.num)), (.string t.val.text)]) [(.string t.var), (.int .i8 (t.val.kind)), (.int .i64 (t.val.num)), (.string t.val.text)] rfl rfl (fun b1 w2 st3 => ?_))
 refine W1 (OpT.assign (.bool false) rfl ?_)
 refine Wns ?_
 refine W1 (OpT.loadA ⟨b1, 0, none⟩ 4 [(.string t.var), (.int .i8 (t.val.kind)), (.int .i64 (t.val.num)), (.string t.val.text)] ta69 ts69 rfl ((st3.rowB (i := 0) rfl).part 0 4) rfl ?_)
 refine W1 (OpT.build [] [ve, (.int .i8 (0)), (ii 0), ve] tz69 tp69 mp0 rfl ?_)
 refine W1 (OpT.aggEq [(.string t.var), (.int .i8 (t.val.kind)), (.int .i64 (t.val.num)), (.string t.val.text)] [ve, (.int .i8 (0)), (ii 0), ve] (decide (t = zTrm)) tg69 (fun w => eqTrm 9997 w t zTrm) rfl rfl ?_)
 refine W1 (OpT.assign (.bool (decide (t = zTrm))) rfl ?_)
 refine Wnt ?_
 refine WC.ret <| retQ.one (.bool (decide (t = zTrm))) rfl ?_
 exact ⟨_, rfl, rfl, (St.selT [Blk b1 69 [(.string t.var), (.int .i8 (t.val.kind)), (.int .i64 (t.val.num)), (.string t.val.text)]] [] rfl (by decide) st3)⟩

theorem code_spec {Z : Nat → Prop} {w0 w : World} {L : List Res} (st : St Z w0 w L) (b : Bool) : Calls Tryz.prog 89 #[(.bool b)] w (Ret fun r w' => r = .int .i64 (errn b 40) ∧ St Z w0 w' L) := by
 refine calls_of_WC (m := 4) (rs := [.tmp 2]) Tryz.func89 rfl rfl rfl rfl ?_
 refine Wsr ?_
 refine W1 (OpT.assign (ii 0) rfl ?_)
 refine Wnt ?_
 refine WC.seq ?_
 refine Wsr ?_
 refine W1 (OpT.move (.bool b) rfl ?_)
 refine Wnt ?_
 refine WC.cond (b) rfl (fun h1 => ?_) (fun h1 => ?_)
 ·refine WC.seq ?_
  refine WC.region ?_
  refine W1 (OpT.assign (ii 0) rfl ?_)
  refine Wnt ?_
  refine WC.ret <| thenQ_r <| retQ.one (ii 0) rfl ?_
  exact ⟨_, rfl, by simp [errn, *], st⟩
 refine WC.skip ?_
 refine thenQ_n ?_
 refine Wsr ?_
 refine W1 (OpT.assign (ii 40) rfl ?_)
 refine Wnt ?_
 refine WC.ret <| retQ.one (ii 40) rfl ?_
 exact ⟨_, rfl, by simp [errn, *], st⟩

def kwB (s : ByteArray) : Bool := decide (s = ⟨#[110, 111, 116]⟩) || decide (s = ⟨#[99, 111, 117, 110, 116]⟩) || decide (s = ⟨#[115, 117, 109]⟩) || decide (s = ⟨#[109, 105, 110]⟩) || decide (s = ⟨#[109, 97, 120]⟩) || decide (s = ⟨#[108, 101, 110]⟩) || decide (s = ⟨#[99, 104, 97, 114, 115]⟩) || decide (s = ⟨#[98, 97, 99, 107]⟩)
    def nameB (s : ByteArray) : Bool := !kwB s && wordB s 97 122
theorem name_spec {Z : Nat → Prop} {w0 w : World} {L : List Res} (st : St Z w0 w L) (s : ByteArray) : Calls Tryz.prog 86 #[(.string s)] w (Ret fun r w' => r = .bool (nameB s) ∧ St Z w0 w' L) := by
 refine calls_of_WC (m := 15) (rs := [.tmp 2]) Tryz.func86 rfl rfl rfl rfl ?_
 refine Wsr ?_
 refine W1 (OpT.assign (.bool false) rfl ?_)
 refine Wnt ?_
 refine WC.seq ?_
 refine Wsr ?_
 refine W1 (OpT.move (.string s) rfl ?_)
 refine Wnt ?_
 refine WC.block ?_
 refine WC.seq ?_
 refine Wsr ?_
 refine W1 (OpT.seq (s) ((⟨#[110, 111, 116]⟩ : ByteArray)) rfl rfl ?_)
 refine W1 (OpT.assign (.bool (decide (s = (⟨#[110, 111, 116]⟩ : ByteArray)))) rfl ?_)
 refine Wnt ?_
 refine WC.condP (s = (⟨#[110, 111, 116]⟩ : ByteArray)) rfl (fun h1 => ?_) (fun h1 => ?_)
 ·refine WC.skip ?_
  refine thenQ_n ?_
  refine WC.condT (bT h1) ?_
  refine Wsr ?_
  refine W1 (OpT.assign (.bool false) rfl ?_)
  refine Wnt ?_
  refine WC.ret <| blkQ_r <| thenQ_r <| retQ.one (.bool false) rfl ?_
  exact ⟨_, rfl, by simp [nameB, kwB, *], st⟩
 refine Wsr ?_
 refine W1 (OpT.seq (s) ((⟨#[99, 111, 117, 110, 116]⟩ : ByteArray)) rfl rfl ?_)
 refine W1 (OpT.assign (.bool (decide (s = (⟨#[99, 111, 117, 110, 116]⟩ : ByteArray)))) rfl ?_)
 refine Wnt ?_
 refine WC.condP (s = (⟨#[99, 111, 117, 110, 116]⟩ : ByteArray)) rfl (fun h2 => ?_) (fun h2 => ?_)
 ·refine WC.skip ?_
  refine thenQ_n ?_
  refine WC.condT (bT h2) ?_
  refine Wsr ?_
  refine W1 (OpT.assign (.bool false) rfl ?_)
  refine Wnt ?_
  refine WC.ret <| blkQ_r <| thenQ_r <| retQ.one (.bool false) rfl ?_
  exact ⟨_, rfl, by simp [nameB, kwB, *], st⟩
 refine Wsr ?_
 refine W1 (OpT.seq (s) ((⟨#[115, 117, 109]⟩ : ByteArray)) rfl rfl ?_)
 refine W1 (OpT.assign (.bool (decide (s = (⟨#[115, 117, 109]⟩ : ByteArray)))) rfl ?_)
 refine Wnt ?_
 refine WC.condP (s = (⟨#[115, 117, 109]⟩ : ByteArray)) rfl (fun h3 => ?_) (fun h3 => ?_)
 ·refine WC.skip ?_
  refine thenQ_n ?_
  refine WC.condT (bT h3) ?_
  refine Wsr ?_
  refine W1 (OpT.assign (.bool false) rfl ?_)
  refine Wnt ?_
  refine WC.ret <| blkQ_r <| thenQ_r <| retQ.one (.bool false) rfl ?_
  exact ⟨_, rfl, by simp [nameB, kwB, *], st⟩
 refine Wsr ?_
 refine W1 (OpT.seq (s) ((⟨#[109, 105, 110]⟩ : ByteArray)) rfl rfl ?_)
 refine W1 (OpT.assign (.bool (decide (s = (⟨#[109, 105, 110]⟩ : ByteArray)))) rfl ?_)
 refine Wnt ?_
 refine WC.condP (s = (⟨#[109, 105, 110]⟩ : ByteArray)) rfl (fun h4 => ?_) (fun h4 => ?_)
 ·refine WC.skip ?_
  refine thenQ_n ?_
  refine WC.condT (bT h4) ?_
  refine Wsr ?_
  refine W1 (OpT.assign (.bool false) rfl ?_)
  refine Wnt ?_
  refine WC.ret <| blkQ_r <| thenQ_r <| retQ.one (.bool false) rfl ?_
  exact ⟨_, rfl, by simp [nameB, kwB, *], st⟩
 refine Wsr ?_
 refine W1 (OpT.seq (s) ((⟨#[109, 97, 120]⟩ : ByteArray)) rfl rfl ?_)
 refine W1 (OpT.assign (.bool (decide (s = (⟨#[109, 97, 120]⟩ : ByteArray)))) rfl ?_)
 refine Wnt ?_
 refine WC.condP (s = (⟨#[109, 97, 120]⟩ : ByteArray)) rfl (fun h5 => ?_) (fun h5 => ?_)
 ·refine WC.skip ?_
  refine thenQ_n ?_
  refine WC.condT (bT h5) ?_
  refine Wsr ?_
  refine W1 (OpT.assign (.bool false) rfl ?_)
  refine Wnt ?_
  refine WC.ret <| blkQ_r <| thenQ_r <| retQ.one (.bool false) rfl ?_
  exact ⟨_, rfl, by simp [nameB, kwB, *], st⟩
 refine Wsr ?_
 refine W1 (OpT.seq (s) ((⟨#[108, 101, 110]⟩ : ByteArray)) rfl rfl ?_)
 refine W1 (OpT.assign (.bool (decide (s = (⟨#[108, 101, 110]⟩ : ByteArray)))) rfl ?_)
 refine Wnt ?_
 refine WC.condP (s = (⟨#[108, 101, 110]⟩ : ByteArray)) rfl (fun h6 => ?_) (fun h6 => ?_)
 ·refine WC.skip ?_
  refine thenQ_n ?_
  refine WC.condT (bT h6) ?_
  refine Wsr ?_
  refine W1 (OpT.assign (.bool false) rfl ?_)
  refine Wnt ?_
  refine WC.ret <| blkQ_r <| thenQ_r <| retQ.one (.bool false) rfl ?_
  exact ⟨_, rfl, by simp [nameB, kwB, *], st⟩
 refine Wsr ?_
 refine W1 (OpT.seq (s) ((⟨#[99, 104, 97, 114, 115]⟩ : ByteArray)) rfl rfl ?_)
 refine W1 (OpT.assign (.bool (decide (s = (⟨#[99, 104, 97, 114, 115]⟩ : ByteArray)))) rfl ?_)
 refine Wnt ?_
 refine WC.condP (s = (⟨#[99, 104, 97, 114, 115]⟩ : ByteArray)) rfl (fun h7 => ?_) (fun h7 => ?_)
 ·refine WC.skip ?_
  refine thenQ_n ?_
  refine WC.condT (bT h7) ?_
  refine Wsr ?_
  refine W1 (OpT.assign (.bool false) rfl ?_)
  refine Wnt ?_
  refine WC.ret <| blkQ_r <| thenQ_r <| retQ.one (.bool false) rfl ?_
  exact ⟨_, rfl, by simp [nameB, kwB, *], st⟩
 refine WC.region ?_
 refine W1 (OpT.seq (s) ((⟨#[98, 97, 99, 107]⟩ : ByteArray)) rfl rfl ?_)
 refine W1 (OpT.assign (.bool (decide (s = (⟨#[98, 97, 99, 107]⟩ : ByteArray)))) rfl ?_)
 refine Wnt ?_
 refine WC.condP (s = (⟨#[98, 97, 99, 107]⟩ : ByteArray)) rfl (fun h8 => ?_) (fun h8 => ?_)
 ·refine WC.seq ?_
  refine WC.region ?_
  refine W1 (OpT.assign (.bool false) rfl ?_)
  refine Wnt ?_
  refine WC.ret <| blkQ_r <| thenQ_r <| retQ.one (.bool false) rfl ?_
  exact ⟨_, rfl, by simp [nameB, kwB, *], st⟩
 refine WC.skip ?_
 refine blkQ_n ?_
 refine thenQ_n ?_
 refine Wsr ?_
 refine W1 (OpT.move (.string s) rfl ?_)
 refine W1 (OpT.callS cal105 [] [] [(.string s), (.int .u8 (97)), (.int .u8 (122))] rfl (ca3 rfl rfl rfl) (word_spec st s (97) (122)) ?_)
 rintro v9 w10 ⟨rfl, st11⟩
 refine W1 (OpT.assign (.bool (wordB s 97 122)) rfl ?_)
 refine Wnt ?_
 refine WC.ret <| retQ.one (.bool (wordB s 97 122)) rfl ?_
 exact ⟨_, rfl, by simp [nameB, kwB, *], st11⟩

def trmB (t : Trm) : Bool := if t.var = ⟨#[]⟩ then chkVal t.val else decide (t.val = zVal) && (decide (t.var = ⟨#[95]⟩) || wordB t.var 65 90)
    theorem errn_ok (b : Bool) (n : Int) (h : n ≠ 0) : decide (errn b n = 0) = b := by cases b <;> simp [errn, h]
theorem CheckTerm_spec {Z : Nat → Prop} {w0 w : World} {L : List Res} (st : St Z w0 w L) (t : Trm) : Calls Tryz.prog 125 #[(.agg #[(.string t.var), (.int .i8 (t.val.kind)), (.int .i64 (t.val.num)), (.string t.val.text)])] w (Ret fun r w' => r = .int .i64 (errn (trmB t) 40) ∧ St Z w0 w' L) := by
 refine calls_of_WC (m := 26) (rs := [.tmp 2]) Tryz.func125 rfl rfl rfl rfl ?_
 refine Wsr ?_
 refine W1 (OpT.box st (.agg #[(.string t.var), (.int .i8 (t.val.kind)), (.int .i64 (t.val.num)), (.string t.val.text)]) [(.string t.var), (.int .i8 (t.val.kind)), (.int .i64 (t.val.num)), (.string t.val.text)] rfl rfl (fun b1 w2 st3 => ?_))
 refine W1 (OpT.assign (ii 0) rfl ?_)
 refine Wnt ?_
 refine WC.seq ?_
 refine Wsr ?_
 refine W1 (OpT.field 0 ⟨b1, 0, none⟩ ⟨b1, 0, none⟩ tf69_0 rfl rfl ?_)
 refine W1 (OpT.loadS ⟨b1, 0, none⟩ (.string t.var) ta9 rfl (st3.cellB (i := 0) rfl rfl) ?_)
 refine W1 (OpT.seq (t.var) ((⟨#[]⟩ : ByteArray)) rfl rfl ?_)
 refine Wnt ?_
 refine WC.condP (t.var = (⟨#[]⟩ : ByteArray)) rfl (fun h4 => ?_) (fun h4 => ?_)
 ·refine WC.seq ?_
  refine WC.region ?_
  refine W1 (OpT.field 1 ⟨b1, 0, none⟩ ⟨b1, 1, none⟩ tf69_1 rfl rfl ?_)
  refine W1 (OpT.loadA ⟨b1, 1, none⟩ 3 [(.int .i8 (t.val.kind)), (.int .i64 (t.val.num)), (.string t.val.text)] ta67 ts67 rfl ((st3.rowB (i := 0) rfl).part 1 3) rfl ?_)
  refine W1 (OpT.callS cal134 [] [] [(.agg #[(.int .i8 (t.val.kind)), (.int .i64 (t.val.num)), (.string t.val.text)])] rfl (ca1 rfl) (value_Check_spec st3 t.val) ?_)
  rintro v5 w6 ⟨rfl, st7⟩
  refine W1 (OpT.ieq .i64 (errn (chkVal t.val) 10) (0) rfl rfl ?_)
  refine W1 (OpT.callS cal89 [] [] [(.bool (decide ((errn (chkVal t.val) 10) = 0)))] rfl (ca1 rfl) (code_spec st7 (decide ((errn (chkVal t.val) 10) = 0))) ?_)
  rintro v8 w9 ⟨rfl, st10⟩
  refine W1 (OpT.assign (.int .i64 (errn (decide ((errn (chkVal t.val) 10) = 0)) 40)) rfl ?_)
  refine Wnt ?_
  refine WC.ret <| thenQ_r <| retQ.one (.int .i64 (errn (decide ((errn (chkVal t.val) 10) = 0)) 40)) rfl ?_
  exact ⟨_, rfl, by simp [trmB, errn_ok, *], (St.selT [Blk b1 69 [(.string t.var), (.int .i8 (t.val.kind)), (.int .i64 (t.val.num)), (.string t.val.text)]] [] rfl (by decide) st10)⟩
 refine WC.skip ?_
 refine thenQ_n ?_
 refine Wsr ?_
 refine W1 (OpT.field 1 ⟨b1, 0, none⟩ ⟨b1, 1, none⟩ tf69_1 rfl rfl ?_)
 refine W1 (OpT.loadA ⟨b1, 1, none⟩ 3 [(.int .i8 (t.val.kind)), (.int .i64 (t.val.num)), (.string t.val.text)] ta67 ts67 rfl ((st3.rowB (i := 0) rfl).part 1 3) rfl ?_)
 refine W1 (OpT.build [] [(.int .i8 (0)), (ii 0), ve] tz67 tp67 mp0 rfl ?_)
 refine W1 (OpT.aggEq [(.int .i8 (t.val.kind)), (.int .i64 (t.val.num)), (.string t.val.text)] [(.int .i8 (0)), (ii 0), ve] (decide (t.val = zVal)) tg67 (fun w => eqVal 9998 w t.val zVal) rfl rfl ?_)
 refine W1 (OpT.move (.bool (decide (t.val = zVal))) rfl ?_)
 by_cases h11 : t.val = zVal
 ·refine W2 (dj := 15) (bT h11) (OpT.field 0 ⟨b1, 0, none⟩ ⟨b1, 0, none⟩ tf69_0 rfl rfl ?_)
  refine W2 (dj := 15) (bT h11) (OpT.loadS ⟨b1, 0, none⟩ (.string t.var) ta9 rfl (st3.cellB (i := 0) rfl rfl) ?_)
  refine W2 (dj := 15) (bT h11) (OpT.seq (t.var) ((⟨#[95]⟩ : ByteArray)) rfl rfl ?_)
  refine W2 (dj := 15) (bT h11) (OpT.move (.bool (decide (t.var = (⟨#[95]⟩ : ByteArray)))) rfl ?_)
  by_cases h12 : t.var = (⟨#[95]⟩ : ByteArray)
  ·refine WL.pass (dj := 19) (c := true) rfl rfl rfl (bT h12) rfl ?_
   refine WL.pass (dj := 19) (c := true) rfl rfl rfl (bT h12) rfl ?_
   refine WL.pass (dj := 19) (c := true) rfl rfl rfl (bT h12) rfl ?_
   refine W2 (dj := 15) (bT h11) (OpT.pickT (.bool true) (bT h12) rfl ?_)
   refine W1 (OpT.pickT (.bool true) (bT h11) rfl ?_)
   refine W1 (OpT.callS cal89 [] [] [(.bool true)] rfl (ca1 rfl) (code_spec st3 true) ?_)
   rintro v13 w14 ⟨rfl, st15⟩
   refine W1 (OpT.assign (.int .i64 (errn true 40)) rfl ?_)
   refine Wnt ?_
   refine WC.ret <| retQ.one (.int .i64 (errn true 40)) rfl ?_
   exact ⟨_, rfl, by simp [trmB, errn_ok, *], (St.selT [Blk b1 69 [(.string t.var), (.int .i8 (t.val.kind)), (.int .i64 (t.val.num)), (.string t.val.text)]] [] rfl (by decide) st15)⟩
  refine W2 (dj := 19) (bF h12) (OpT.field 0 ⟨b1, 0, none⟩ ⟨b1, 0, none⟩ tf69_0 rfl rfl ?_)
  refine W2 (dj := 19) (bF h12) (OpT.loadS ⟨b1, 0, none⟩ (.string t.var) ta9 rfl (st3.cellB (i := 0) rfl rfl) ?_)
  refine W2 (dj := 19) (bF h12) (OpT.callS cal105 [] [] [(.string t.var), (.int .u8 (65)), (.int .u8 (90))] rfl (ca3 rfl rfl rfl) (word_spec st3 t.var (65) (90)) ?_)
  rintro v16 w17 ⟨rfl, st18⟩
  refine W2 (dj := 15) (bT h11) (OpT.pickF (.bool (wordB t.var 65 90)) (bF h12) rfl ?_)
  refine W1 (OpT.pickT (.bool (wordB t.var 65 90)) (bT h11) rfl ?_)
  refine W1 (OpT.callS cal89 [] [] [(.bool (wordB t.var 65 90))] rfl (ca1 rfl) (code_spec st18 (wordB t.var 65 90)) ?_)
  rintro v19 w20 ⟨rfl, st21⟩
  refine W1 (OpT.assign (.int .i64 (errn (wordB t.var 65 90) 40)) rfl ?_)
  refine Wnt ?_
  refine WC.ret <| retQ.one (.int .i64 (errn (wordB t.var 65 90) 40)) rfl ?_
  exact ⟨_, rfl, by simp [trmB, errn_ok, *], (St.selT [Blk b1 69 [(.string t.var), (.int .i8 (t.val.kind)), (.int .i64 (t.val.num)), (.string t.val.text)]] [] rfl (by decide) st21)⟩
 refine WL.pass (dj := 15) (c := false) rfl rfl rfl (bF h11) rfl ?_
 refine WL.pass (dj := 15) (c := false) rfl rfl rfl (bF h11) rfl ?_
 refine WL.pass (dj := 15) (c := false) rfl rfl rfl (bF h11) rfl ?_
 refine WL.pass (dj := 15) (c := false) rfl rfl rfl (bF h11) rfl ?_
 refine WL.passU (dj := 19) rfl rfl rfl ?_
 refine WL.passU (dj := 19) rfl rfl rfl ?_
 refine WL.passU (dj := 19) rfl rfl rfl ?_
 refine WL.pass (dj := 15) (c := false) rfl rfl rfl (bF h11) rfl ?_
 refine W1 (OpT.pickF (.bool false) (bF h11) rfl ?_)
 refine W1 (OpT.callS cal89 [] [] [(.bool false)] rfl (ca1 rfl) (code_spec st3 false) ?_)
 rintro v22 w23 ⟨rfl, st24⟩
 refine W1 (OpT.assign (.int .i64 (errn false 40)) rfl ?_)
 refine Wnt ?_
 refine WC.ret <| retQ.one (.int .i64 (errn false 40)) rfl ?_
 exact ⟨_, rfl, by simp [trmB, errn_ok, *], (St.selT [Blk b1 69 [(.string t.var), (.int .i8 (t.val.kind)), (.int .i64 (t.val.num)), (.string t.val.text)]] [] rfl (by decide) st24)⟩

def solidB (t : Trm) : Bool := decide (t.var ≠ ⟨#[95]⟩) && trmB t
theorem solid_spec {Z : Nat → Prop} {w0 w : World} {L : List Res} (st : St Z w0 w L) (t : Trm) : Calls Tryz.prog 106 #[(.agg #[(.string t.var), (.int .i8 (t.val.kind)), (.int .i64 (t.val.num)), (.string t.val.text)])] w (Ret fun r w' => r = .bool (solidB t) ∧ St Z w0 w' L) := by
 refine calls_of_WC (m := 11) (rs := [.tmp 2]) Tryz.func106 rfl rfl rfl rfl ?_
 refine Wsr ?_
 refine W1 (OpT.box st (.agg #[(.string t.var), (.int .i8 (t.val.kind)), (.int .i64 (t.val.num)), (.string t.val.text)]) [(.string t.var), (.int .i8 (t.val.kind)), (.int .i64 (t.val.num)), (.string t.val.text)] rfl rfl (fun b1 w2 st3 => ?_))
 refine W1 (OpT.assign (.bool false) rfl ?_)
 refine Wns ?_
 refine W1 (OpT.field 0 ⟨b1, 0, none⟩ ⟨b1, 0, none⟩ tf69_0 rfl rfl ?_)
 refine W1 (OpT.loadS ⟨b1, 0, none⟩ (.string t.var) ta9 rfl (st3.cellB (i := 0) rfl rfl) ?_)
 refine W1 (OpT.sne (t.var) ((⟨#[95]⟩ : ByteArray)) rfl rfl ?_)
 refine W1 (OpT.move (.bool (decide (t.var ≠ (⟨#[95]⟩ : ByteArray)))) rfl ?_)
 by_cases h4 : t.var ≠ (⟨#[95]⟩ : ByteArray)
 ·refine W2 (dj := 6) (bT h4) (OpT.loadA ⟨b1, 0, none⟩ 4 [(.string t.var), (.int .i8 (t.val.kind)), (.int .i64 (t.val.num)), (.string t.val.text)] ta69 ts69 rfl ((st3.rowB (i := 0) rfl).part 0 4) rfl ?_)
  refine W2 (dj := 6) (bT h4) (OpT.callS cal125 [] [] [(.agg #[(.string t.var), (.int .i8 (t.val.kind)), (.int .i64 (t.val.num)), (.string t.val.text)])] rfl (ca1 rfl) (CheckTerm_spec st3 t) ?_)
  rintro v5 w6 ⟨rfl, st7⟩
  refine W2 (dj := 6) (bT h4) (OpT.ieq .i64 (errn (trmB t) 40) (0) rfl rfl ?_)
  refine W1 (OpT.pickT (.bool (decide ((errn (trmB t) 40) = 0))) (bT h4) rfl ?_)
  refine W1 (OpT.assign (.bool (decide ((errn (trmB t) 40) = 0))) rfl ?_)
  refine Wnt ?_
  refine WC.ret <| retQ.one (.bool (decide ((errn (trmB t) 40) = 0))) rfl ?_
  exact ⟨_, rfl, by simp [solidB, errn_ok, *], (St.selT [Blk b1 69 [(.string t.var), (.int .i8 (t.val.kind)), (.int .i64 (t.val.num)), (.string t.val.text)]] [] rfl (by decide) st7)⟩
 refine WL.pass (dj := 6) (c := false) rfl rfl rfl (bF h4) rfl ?_
 refine WL.pass (dj := 6) (c := false) rfl rfl rfl (bF h4) rfl ?_
 refine WL.pass (dj := 6) (c := false) rfl rfl rfl (bF h4) rfl ?_
 refine W1 (OpT.pickF (.bool false) (bF h4) rfl ?_)
 refine W1 (OpT.assign (.bool false) rfl ?_)
 refine Wnt ?_
 refine WC.ret <| retQ.one (.bool false) rfl ?_
 exact ⟨_, rfl, by simp [solidB, errn_ok, *], (St.selT [Blk b1 69 [(.string t.var), (.int .i8 (t.val.kind)), (.int .i64 (t.val.num)), (.string t.val.text)]] [] rfl (by decide) st3)⟩

def arityF (o : Int) : Int := if o = 1 then 1 else if o = 8 then 1 else if o = 9 then 1 else if o = 10 then 1 else if o = 2 then 2 else if o = 3 then 2 else if o = 4 then 2 else if o = 5 then 2 else if o = 6 then 2 else if o = 7 then 2 else -1
theorem arity_spec {Z : Nat → Prop} {w0 w : World} {L : List Res} (st : St Z w0 w L) (o : Int) : Calls Tryz.prog 136 #[(.int .i8 (o))] w (Ret fun r w' => r = .int .i64 (arityF o) ∧ St Z w0 w' L) := by
 refine calls_of_WC (m := 16) (rs := [.tmp 2]) Tryz.func136 rfl rfl rfl rfl ?_
 refine Wsr ?_
 refine W1 (OpT.assign (ii 0) rfl ?_)
 refine Wnt ?_
 refine WC.seq ?_
 refine Wsr ?_
 refine W1 (OpT.move (.int .i8 (o)) rfl ?_)
 refine Wnt ?_
 refine WC.block ?_
 refine WC.seq ?_
 refine Wsr ?_
 refine W1 (OpT.ieq .i8 (o) (1) rfl rfl ?_)
 refine W1 (OpT.assign (.bool (decide (o = 1))) rfl ?_)
 refine Wnt ?_
 refine WC.condP (o = 1) rfl (fun h1 => ?_) (fun h1 => ?_)
 ·refine WC.skip ?_
  refine thenQ_n ?_
  refine WC.condT (bT h1) ?_
  refine Wsr ?_
  refine W1 (OpT.assign (ii 1) rfl ?_)
  refine Wnt ?_
  refine WC.ret <| blkQ_r <| thenQ_r <| retQ.one (ii 1) rfl ?_
  exact ⟨_, rfl, by simp [arityF, *], st⟩
 refine Wsr ?_
 refine W1 (OpT.ieq .i8 (o) (8) rfl rfl ?_)
 refine W1 (OpT.assign (.bool (decide (o = 8))) rfl ?_)
 refine Wnt ?_
 refine WC.condP (o = 8) rfl (fun h2 => ?_) (fun h2 => ?_)
 ·refine WC.skip ?_
  refine thenQ_n ?_
  refine WC.condT (bT h2) ?_
  refine Wsr ?_
  refine W1 (OpT.assign (ii 1) rfl ?_)
  refine Wnt ?_
  refine WC.ret <| blkQ_r <| thenQ_r <| retQ.one (ii 1) rfl ?_
  exact ⟨_, rfl, by simp [arityF, *], st⟩
 refine Wsr ?_
 refine W1 (OpT.ieq .i8 (o) (9) rfl rfl ?_)
 refine W1 (OpT.assign (.bool (decide (o = 9))) rfl ?_)
 refine Wnt ?_
 refine WC.condP (o = 9) rfl (fun h3 => ?_) (fun h3 => ?_)
 ·refine WC.skip ?_
  refine thenQ_n ?_
  refine WC.condT (bT h3) ?_
  refine Wsr ?_
  refine W1 (OpT.assign (ii 1) rfl ?_)
  refine Wnt ?_
  refine WC.ret <| blkQ_r <| thenQ_r <| retQ.one (ii 1) rfl ?_
  exact ⟨_, rfl, by simp [arityF, *], st⟩
 refine WC.region ?_
 refine W1 (OpT.ieq .i8 (o) (10) rfl rfl ?_)
 refine W1 (OpT.assign (.bool (decide (o = 10))) rfl ?_)
 refine Wnt ?_
 refine WC.condP (o = 10) rfl (fun h4 => ?_) (fun h4 => ?_)
 ·refine WC.seq ?_
  refine WC.region ?_
  refine W1 (OpT.assign (ii 1) rfl ?_)
  refine Wnt ?_
  refine WC.ret <| blkQ_r <| thenQ_r <| retQ.one (ii 1) rfl ?_
  exact ⟨_, rfl, by simp [arityF, *], st⟩
 refine WC.seq ?_
 refine Wsr ?_
 refine W1 (OpT.ieq .i8 (o) (2) rfl rfl ?_)
 refine W1 (OpT.assign (.bool (decide (o = 2))) rfl ?_)
 refine Wnt ?_
 refine WC.condP (o = 2) rfl (fun h5 => ?_) (fun h5 => ?_)
 ·refine WC.skip ?_
  refine thenQ_n ?_
  refine WC.condT (bT h5) ?_
  refine Wsr ?_
  refine W1 (OpT.assign (ii 2) rfl ?_)
  refine Wnt ?_
  refine WC.ret <| blkQ_r <| thenQ_r <| retQ.one (ii 2) rfl ?_
  exact ⟨_, rfl, by simp [arityF, *], st⟩
 refine Wsr ?_
 refine W1 (OpT.ieq .i8 (o) (3) rfl rfl ?_)
 refine W1 (OpT.assign (.bool (decide (o = 3))) rfl ?_)
 refine Wnt ?_
 refine WC.condP (o = 3) rfl (fun h6 => ?_) (fun h6 => ?_)
 ·refine WC.skip ?_
  refine thenQ_n ?_
  refine WC.condT (bT h6) ?_
  refine Wsr ?_
  refine W1 (OpT.assign (ii 2) rfl ?_)
  refine Wnt ?_
  refine WC.ret <| blkQ_r <| thenQ_r <| retQ.one (ii 2) rfl ?_
  exact ⟨_, rfl, by simp [arityF, *], st⟩
 refine Wsr ?_
 refine W1 (OpT.ieq .i8 (o) (4) rfl rfl ?_)
 refine W1 (OpT.assign (.bool (decide (o = 4))) rfl ?_)
 refine Wnt ?_
 refine WC.condP (o = 4) rfl (fun h7 => ?_) (fun h7 => ?_)
 ·refine WC.skip ?_
  refine thenQ_n ?_
  refine WC.condT (bT h7) ?_
  refine Wsr ?_
  refine W1 (OpT.assign (ii 2) rfl ?_)
  refine Wnt ?_
  refine WC.ret <| blkQ_r <| thenQ_r <| retQ.one (ii 2) rfl ?_
  exact ⟨_, rfl, by simp [arityF, *], st⟩
 refine Wsr ?_
 refine W1 (OpT.ieq .i8 (o) (5) rfl rfl ?_)
 refine W1 (OpT.assign (.bool (decide (o = 5))) rfl ?_)
 refine Wnt ?_
 refine WC.condP (o = 5) rfl (fun h8 => ?_) (fun h8 => ?_)
 ·refine WC.skip ?_
  refine thenQ_n ?_
  refine WC.condT (bT h8) ?_
  refine Wsr ?_
  refine W1 (OpT.assign (ii 2) rfl ?_)
  refine Wnt ?_
  refine WC.ret <| blkQ_r <| thenQ_r <| retQ.one (ii 2) rfl ?_
  exact ⟨_, rfl, by simp [arityF, *], st⟩
 refine Wsr ?_
 refine W1 (OpT.ieq .i8 (o) (6) rfl rfl ?_)
 refine W1 (OpT.assign (.bool (decide (o = 6))) rfl ?_)
 refine Wnt ?_
 refine WC.condP (o = 6) rfl (fun h9 => ?_) (fun h9 => ?_)
 ·refine WC.skip ?_
  refine thenQ_n ?_
  refine WC.condT (bT h9) ?_
  refine Wsr ?_
  refine W1 (OpT.assign (ii 2) rfl ?_)
  refine Wnt ?_
  refine WC.ret <| blkQ_r <| thenQ_r <| retQ.one (ii 2) rfl ?_
  exact ⟨_, rfl, by simp [arityF, *], st⟩
 refine WC.region ?_
 refine W1 (OpT.ieq .i8 (o) (7) rfl rfl ?_)
 refine W1 (OpT.assign (.bool (decide (o = 7))) rfl ?_)
 refine Wnt ?_
 refine WC.condP (o = 7) rfl (fun h10 => ?_) (fun h10 => ?_)
 ·refine WC.seq ?_
  refine WC.region ?_
  refine W1 (OpT.assign (ii 2) rfl ?_)
  refine Wnt ?_
  refine WC.ret <| blkQ_r <| thenQ_r <| retQ.one (ii 2) rfl ?_
  exact ⟨_, rfl, by simp [arityF, *], st⟩
 refine WC.skip ?_
 refine blkQ_n ?_
 refine thenQ_n ?_
 refine Wsr ?_
 refine W1 (OpT.assign (ii (-1)) rfl ?_)
 refine Wnt ?_
 refine WC.ret <| retQ.one (ii (-1)) rfl ?_
 exact ⟨_, rfl, by simp [arityF, *], st⟩

end Go.Ped
