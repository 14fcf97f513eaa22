/-
  Maps: what is looked up with a second answer; what a map holds behind a store.
-/
import Derived.Test.YtojkakpkmfopbaaEngL
namespace Go.Eng
open Go.RowKit
section
variable {κ α : Type} [DecidableEq κ]
theorem mset_nil (k : κ) (v : α) : mset [] k v = [(k, v)] := rfl
theorem mset_cons (p : κ × α) (m : List (κ × α)) (k : κ) (v : α) : mset (p :: m) k v = if p.1 = k then (k, v) :: m else p :: mset m k v := by
  unfold mset
  by_cases h : p.1 = k
  · simp [List.findIdx?_cons, h]
  · simp only [List.findIdx?_cons, h, decide_false, Bool.false_eq_true, if_false]
    cases m.findIdx? (fun p => decide (p.1 = k)) <;> simp
theorem mget_nil (q : κ) : mget ([] : List (κ × α)) q = none := rfl
theorem mget_cons (p : κ × α) (m : List (κ × α)) (q : κ) : mget (p :: m) q = if p.1 = q then some p.2 else mget m q := by
  unfold mget
  by_cases h : p.1 = q
  · simp [List.find?_cons, h]
  · simp [List.find?_cons, h]
theorem mget_mset (m : List (κ × α)) (k q : κ) (v : α) : mget (mset m k v) q = if q = k then some v else mget m q := by
  induction m with
  | nil =>
    rw [mset_nil, mget_cons, mget_nil]
    by_cases h : q = k
    · simp [h]
    · have : ¬ k = q := fun e => h e.symm
      simp [h, this]
  | cons p m ih =>
    rw [mset_cons, mget_cons]
    by_cases h : p.1 = k
    · rw [if_pos h, mget_cons]
      by_cases hq : q = k
      · subst hq; simp
      · have h1 : ¬ k = q := fun e => hq e.symm
        have h2 : ¬ p.1 = q := fun e => hq (e.symm.trans h)
        simp [hq, h1, h2]
    · rw [if_neg h, mget_cons, ih]
      by_cases hq : q = k
      · subst hq; simp [h]
      · simp [hq]
theorem isSome_mset (m : List (κ × α)) (k q : κ) (v : α) : (mget (mset m k v) q).isSome = (decide (q = k) || (mget m q).isSome) := by
  rw [mget_mset]
  by_cases h : q = k <;> simp [h]
end
theorem wsub {a b : Nat} (h : b ≤ a) (h2 : a < 9223372036854775808) : IntKind.i64.wrap ((a : Int) - (b : Int)) = ((a - b : Nat) : Int) := by
  have : IntKind.i64.wrap ((a : Int) - (b : Int)) = (a : Int) - (b : Int) := IntWalk.i64_in _ (by omega)
  rw [this]; omega
section
variable {P : Program} {Z : Nat → Prop} {w0 w : World} {L : List Res} {ρ : Env} {K : Value → World → Prop} {d : Option Tmp} {ty : TypeId} {pos : String} {after : Array Edge} {gd : Option (Nat × Bool)}
theorem OpT.lookupOkI {κ : Type} [DecidableEq κ] {kf : κ → Value} {ik : IntKind} {t kt et : TypeId} {x y : Operand} {b : Nat} {m : List (κ × Int)} (st : St Z w0 w L) (i : Nat) (hi : L[i]? = some (Mp kf (Value.int ik) b m)) (hk : KeyOk P kt kf) (hu : P.underlying t = some (.map kt et)) (hz : zeroB P et = some (.int ik 0)) (k : κ)
    (hx : evO ρ x = .map (some b)) (hy : evO ρ y = kf k) (hK : K (.tuple #[.int ik ((mget m k).getD 0), .bool (mget m k).isSome]) w) : OpT P ⟨d, .lookup t x y true, ty, pos, after, gd⟩ ρ w K := by
  refine OpT.lookupOk st i hi hk hu hz k hx hy ?_
  cases h : mget m k <;> simpa [h] using hK
theorem OpT.lookupOkU {κ : Type} [DecidableEq κ] {kf : κ → Value} {t kt et : TypeId} {x y : Operand} {b : Nat} {m : List (κ × Unit)} (st : St Z w0 w L) (i : Nat) (hi : L[i]? = some (Mp kf (fun _ : Unit => Value.agg #[]) b m)) (hk : KeyOk P kt kf) (hu : P.underlying t = some (.map kt et)) (hz : zeroB P et = some (.agg #[])) (k : κ)
    (hx : evO ρ x = .map (some b)) (hy : evO ρ y = kf k) (hK : K (.tuple #[.agg #[], .bool (mget m k).isSome]) w) : OpT P ⟨d, .lookup t x y true, ty, pos, after, gd⟩ ρ w K := by
  refine OpT.lookupOk st i hi hk hu hz k hx hy ?_
  cases h : mget m k <;> simpa [h] using hK
theorem OpT.lookupOkV {κ : Type} [DecidableEq κ] {kf : κ → Value} {t kt et : TypeId} {x y : Operand} {b : Nat} {m : List (κ × Value)} {z : Value} (st : St Z w0 w L) (i : Nat) (hi : L[i]? = some (Mp kf (fun v : Value => v) b m)) (hk : KeyOk P kt kf) (hu : P.underlying t = some (.map kt et)) (hz : zeroB P et = some z) (k : κ)
    (hx : evO ρ x = .map (some b)) (hy : evO ρ y = kf k) (hK : K (.tuple #[(mget m k).getD z, .bool (mget m k).isSome]) w) : OpT P ⟨d, .lookup t x y true, ty, pos, after, gd⟩ ρ w K := by
  refine OpT.lookupOk st i hi hk hu hz k hx hy ?_
  cases h : mget m k <;> simpa [h] using hK
theorem OpT.lookupV {κ : Type} [DecidableEq κ] {kf : κ → Value} {t kt et : TypeId} {x y : Operand} {b : Nat} {m : List (κ × Value)} {z : Value} (st : St Z w0 w L) (i : Nat) (hi : L[i]? = some (Mp kf (fun v : Value => v) b m)) (hk : KeyOk P kt kf) (hu : P.underlying t = some (.map kt et)) (hz : zeroB P et = some z) (k : κ)
    (hx : evO ρ x = .map (some b)) (hy : evO ρ y = kf k) (hK : K ((mget m k).getD z) w) : OpT P ⟨d, .lookup t x y false, ty, pos, after, gd⟩ ρ w K := by
  refine OpT.lookup st i hi hk hu hz k hx hy ?_
  cases h : mget m k <;> simpa [h] using hK
end
end Go.Eng
