/-
  What stays frozen: the frozen part grows.
-/
import Derived.Test.YtojkakpkmfopbaaEngI
namespace Go.Eng
open Go.RowKit
theorem caF {f m c a : List Value} (h : [] ++ m ++ c = a ++ c) : f ++ m ++ c = f ++ (a ++ c) := by
  rw [List.append_assoc, ← h]; simp
def Ext (Z : Nat → Prop) (w0 : World) (Z' : Nat → Prop) (w1 : World) : Prop := (∀ k, Z k → Z' k) ∧ (∀ k, Z k → w1.heap[k]? = w0.heap[k]?) ∧ ∀ w' L', St Z' w1 w' L' → St Z w0 w' L'
theorem Ext.refl (Z : Nat → Prop) (w0 : World) : Ext Z w0 Z w0 := ⟨fun _ h => h, fun _ _ => rfl, fun _ _ h => h⟩
theorem Ext.trans {Z Z1 Z2 : Nat → Prop} {w0 w1 w2 : World} (h : Ext Z w0 Z1 w1) (g : Ext Z1 w1 Z2 w2) : Ext Z w0 Z2 w2 :=
  ⟨fun k hk => g.1 k (h.1 k hk), fun k hk => (g.2.1 k (h.1 k hk)).trans (h.2.1 k hk), fun w' L' st => h.2.2 w' L' (g.2.2 w' L' st)⟩
theorem Ext.sl {α : Type} {r : Rl α} {Z Z1 : Nat → Prop} {w0 w1 : World} {v : Value} {xs : List α} (h : Ext Z w0 Z1 w1) (g : r.sl Z w0 v xs) : r.sl Z1 w1 v xs := Rl.sl_mono g h.1 h.2.1
theorem Ext.R {α : Type} {r : Rl α} {Z Z1 : Nat → Prop} {w0 w1 : World} {cs : List Value} {x : α} (h : Ext Z w0 Z1 w1) (g : r.R Z w0 cs x) : r.R Z1 w1 cs x := r.mono g h.1 h.2.1
theorem Ext.back {Z Z1 : Nat → Prop} {w0 w1 w' : World} {L : List Res} (h : Ext Z w0 Z1 w1) (st : St Z1 w1 w' L) : St Z w0 w' L := h.2.2 _ _ st
section
variable {Z : Nat → Prop} {w0 w : World} {L : List Res}
/-- The rest, when the first piece is let go. -/
theorem St.tl {r : Res} (st : St Z w0 w (r :: L)) : St Z w0 w L := by
  obtain ⟨S, _, _, h2⟩ := st.freeze
  rename_i h1
  exact (St.selT [r] [] rfl (by decide) st)
/-- One's own row of data is frozen for good: it can be read. -/
theorem St.freezeRow {α : Type} {r : Rl α} {e : TypeId} {v : Value} {xs : List α} {cs : List Value} (st : St Z w0 w (Row e r.sz v xs.length cs :: L)) (hl : xs.length < 1073741824) (hr : ∀ i x, xs[i]? = some x → r.R Z w0 ((cs.drop (i * r.sz)).take r.sz) x) : ∃ Z', Ext Z w0 Z' w ∧ r.sl Z' w v xs ∧ St Z' w w L := by
  obtain ⟨S, ⟨hS, ho⟩, h1, h2⟩ := st.freeze
  refine ⟨_, ⟨fun k h => .inl h, st.old, fun w' L' h => (h2 w' L' h).tl⟩, ?_, h1⟩
  exact Rl.sl_row r ho (fun k hk => .inr ((hS k).2 hk)) rfl rfl (by omega) (fun i x hx => r.mono (hr i x hx) (fun k h => .inl h) st.old)
/-- The cells of a row, element by element. -/
def RowsOf {α : Type} (P : List Value → α → Prop) (sz : Nat) (cs : List Value) (xs : List α) : Prop := cs.length = xs.length * sz ∧ ∀ i x, xs[i]? = some x → P ((cs.drop (i * sz)).take sz) x
theorem RowsOf.nil {α : Type} {P : List Value → α → Prop} {sz : Nat} : RowsOf P sz [] [] := ⟨by simp, fun i x h => by simp at h⟩
theorem RowsOf.snoc {α : Type} {P : List Value → α → Prop} {sz : Nat} {cs ls : List Value} {xs : List α} {q : α} (h : RowsOf P sz cs xs) (hl : ls.length = sz) (hq : P ls q) : RowsOf P sz (cs ++ ls) (xs ++ [q]) := by
  refine ⟨by simp [h.1, hl, Nat.add_mul], fun i x hx => ?_⟩
  rcases Nat.lt_trichotomy i xs.length with hi | hi | hi
  · rw [List.getElem?_append_left hi] at hx
    have h1 := h.2 i x hx
    have h2 : (i + 1) * sz ≤ xs.length * sz := Nat.mul_le_mul_right _ hi
    rw [Nat.add_mul, Nat.one_mul] at h2
    rw [List.drop_append_of_le_length (by rw [h.1]; omega), List.take_append_of_le_length (by rw [List.length_drop, h.1]; omega)]
    exact h1
  · subst hi
    simp at hx; subst hx
    rw [← h.1, List.drop_left, List.take_of_length_le (by omega)]
    exact hq
  · rw [List.getElem?_eq_none (by simp; omega)] at hx; cases hx
theorem RowsOf.ext {α : Type} {r : Rl α} {Z Z1 : Nat → Prop} {w0 w1 : World} {sz : Nat} {cs : List Value} {xs : List α} (h : Ext Z w0 Z1 w1) (g : RowsOf (r.R Z w0) sz cs xs) : RowsOf (r.R Z1 w1) sz cs xs := ⟨g.1, fun i x hx => h.R (g.2 i x hx)⟩
theorem str_at {xs : List ByteArray} (i : Nat) (x : ByteArray) (hx : xs[i]? = some x) : rStr.R Z w0 (((xs.map Value.string).drop (i * rStr.sz)).take rStr.sz) x := by
  show List.take 1 (List.drop (i * 1) _) = [Value.string x]
  rw [Nat.mul_one, List.take_one, List.head?_drop, List.getElem?_map, hx]
  rfl
end
end Go.Eng
