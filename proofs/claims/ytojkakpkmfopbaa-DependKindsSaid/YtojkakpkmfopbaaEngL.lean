/-
  Several pieces held as one; a piece with something unknown in it.
-/
import Derived.Test.YtojkakpkmfopbaaEngK
namespace Go.Eng
open Go.RowKit
/-- Some pieces as one piece. -/
def Pk (K : List Res) : Res where
  P w S := ∃ F : Nat → Nat → Prop, (∀ (i : Nat) (r : Res), K[i]? = some r → r.P w (F i)) ∧ (∀ i j k, i ≠ j → F i k → ¬ F j k) ∧ (∀ k, S k ↔ ∃ i, i < K.length ∧ F i k)
  loc := fun ⟨F, h1, h2, h3⟩ h => ⟨F, fun i r hr => r.loc (h1 i r hr) (fun k hk => h k ((h3 k).2 ⟨i, (List.getElem?_eq_some_iff.1 hr).1, hk⟩)), h2, h3⟩
/-- A piece with something unknown in it. -/
def Ex {α : Type} (f : α → Res) : Res where
  P w S := ∃ a, (f a).P w S
  loc := fun ⟨a, h1⟩ h => ⟨a, (f a).loc h1 h⟩
section
variable {Z : Nat → Prop} {w0 w : World} {L K : List Res}
theorem St.ex {α : Type} {f : α → Res} (st : St Z w0 w (Ex f :: L)) : ∃ a, St Z w0 w (f a :: L) := by
  obtain ⟨F, h1, h2, h3⟩ := st.sep
  obtain ⟨a, ha⟩ := h1 0 _ rfl
  refine ⟨a, st.os, st.tape, st.output, st.size, st.dom, st.old, F, ?_, h2, h3⟩
  intro i r hr
  cases i with
  | zero => simp at hr; subst hr; exact ha
  | succ i => exact h1 (i + 1) r (by simpa using hr)
theorem St.exI {α : Type} {f : α → Res} (a : α) (st : St Z w0 w (f a :: L)) : St Z w0 w (Ex f :: L) := by
  obtain ⟨F, h1, h2, h3⟩ := st.sep
  refine ⟨st.os, st.tape, st.output, st.size, st.dom, st.old, F, ?_, h2, h3⟩
  intro i r hr
  cases i with
  | zero => simp at hr; subst hr; exact ⟨a, h1 0 _ rfl⟩
  | succ i => exact h1 (i + 1) r (by simpa using hr)
theorem St.pkI (st : St Z w0 w (K ++ L)) : St Z w0 w (Pk K :: L) := by
  obtain ⟨F, h1, h2, h3⟩ := st.sep
  refine ⟨st.os, st.tape, st.output, st.size, st.dom, st.old, fun i => match i with | 0 => fun k => ∃ j, j < K.length ∧ F j k | i + 1 => F (K.length + i), ?_, ?_, ?_⟩
  · intro i r hr
    cases i with
    | zero =>
      simp at hr; subst hr
      exact ⟨F, fun j q hq => h1 j q (by rw [List.getElem?_append_left (List.getElem?_eq_some_iff.1 hq).1]; exact hq), h2, fun k => Iff.rfl⟩
    | succ i =>
      refine h1 _ r ?_
      rw [List.getElem?_append_right (by omega)]
      simpa using hr
  · intro i j k hij hi hj
    cases i with
    | zero =>
      obtain ⟨a, ha, hf⟩ := hi
      cases j with
      | zero => exact hij rfl
      | succ j => exact h2 a _ k (by omega) hf hj
    | succ i =>
      cases j with
      | zero => obtain ⟨a, ha, hf⟩ := hj; exact h2 _ a k (by omega) hi hf
      | succ j => exact h2 _ _ k (by omega) hi hj
  · intro i k hk
    cases i with
    | zero => obtain ⟨a, _, hf⟩ := hk; exact h3 a k hf
    | succ i => exact h3 _ k hk
theorem St.pk (st : St Z w0 w (Pk K :: L)) : St Z w0 w (K ++ L) := by
  obtain ⟨G, h1, h2, h3⟩ := st.sep
  obtain ⟨F, g1, g2, g3⟩ := h1 0 _ rfl
  have hsub : ∀ i k, i < K.length → F i k → G 0 k := fun i k hi hf => (g3 k).2 ⟨i, hi, hf⟩
  refine ⟨st.os, st.tape, st.output, st.size, st.dom, st.old, fun i => if i < K.length then F i else G (i - K.length + 1), ?_, ?_, ?_⟩
  · intro i r hr
    by_cases hi : i < K.length
    · simp only [hi, if_true]
      exact g1 i r (by rw [List.getElem?_append_left hi] at hr; exact hr)
    · simp only [hi, if_false]
      refine h1 _ r ?_
      rw [List.getElem?_append_right (by omega)] at hr
      simpa using hr
  · intro i j k hij hi hj
    by_cases h : i < K.length
    · by_cases h' : j < K.length
      · simp only [h, h', if_true] at hi hj; exact g2 i j k hij hi hj
      · simp only [h, h', if_true, if_false] at hi hj; exact h2 0 _ k (by omega) (hsub i k h hi) hj
    · by_cases h' : j < K.length
      · simp only [h, h', if_true, if_false] at hi hj; exact h2 _ 0 k (by omega) hi (hsub j k h' hj)
      · simp only [h, h', if_false] at hi hj; exact h2 _ _ k (by omega) hi hj
  · intro i k hk
    by_cases h : i < K.length
    · simp only [h, if_true] at hk; exact h3 0 k (hsub i k h hk)
    · simp only [h, if_false] at hk; exact h3 _ k hk
theorem St.factI {p : Prop} (h : p) (st : St Z w0 w L) : St Z w0 w (Fact p :: L) :=
  st.cons (Below.refl _ _) _ (fun _ => False) ⟨fun _ h => h, h⟩ (fun _ h => h.elim)
end
def HFc (l : List Oper) (n : Nat) (F : Nat → (Nat → Value) → Value → Prop) (i : Nat) : Prop := ∀ (vals vals' : Nat → Value) (v : Value), (∀ j, ancB l n i j = true → vals j = vals' j) → F i vals v → F i vals' v
def HDc (l : List Oper) (n : Nat) (D : Nat → (Nat → Value) → Value → List Res) (i : Nat) : Prop := ∀ (vals vals' : Nat → Value) (v : Value), (∀ j, ancB l n i j = true → vals j = vals' j) → D i vals v = D i vals' v
theorem WC.drawV2 {P : Program} {m : Nat} {l : List Oper} {Q : QP} {Z : Nat → Prop} {w0 : World} {L : List Res} {id : Nat} {ρ0 : Env} {w : World} (n : Nat) (F : Nat → (Nat → Value) → Value → Prop) (D : Nat → (Nat → Value) → Value → List Res) (st : St Z w0 w L) (hm : P.follows .mixedOrders = true) (hB : headB m l n = true)
    (hFc : ∀ i, i < n → HFc l n F i) (hDc : ∀ i, i < n → HDc l n D i) (hop : ∀ i, i < n → ObV P m l n F D Z w0 L ρ0 i)
    (hend : ∀ (vals : Nat → Value) (ρ : Env) (w : World), (∀ i, Nat.blt i n = true → F i vals (vals i) ∧ ∀ d, dstOf l i = some d → ρ d = vals i) → (∀ t, nodst l n t = true → ρ t = ρ0 t) → St Z w0 w (flat (fun i v => D i vals v) (fun _ => true) vals (List.range n) ++ L) →
      WL P m l.toArray Q (l.drop n) ρ w) : WC P m (.region id l.toArray true) Q ρ0 w :=
  WC.drawV n F D st hm hB (fun i a b v hi => hFc i hi a b v) (fun i a b v hi => hDc i hi a b v) hop hend
end Go.Eng
