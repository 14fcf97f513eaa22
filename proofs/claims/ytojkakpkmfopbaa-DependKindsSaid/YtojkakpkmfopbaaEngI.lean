/-
  More pieces: an empty row of one's own.
-/
import Derived.Test.YtojkakpkmfopbaaEngH
namespace Go.Eng
open Go.RowKit
section
variable {Z : Nat → Prop} {w0 w : World} {L : List Res}
theorem St.rowNil (e sz : Nat) (st : St Z w0 w L) : St Z w0 w (Row e sz (.slice none 0 0) 0 [] :: L) :=
  st.cons (Below.refl _ _) _ (fun _ => False) ⟨fun k => by simp [Value.ownBlock], World.ownsRow_nil _ _ _ _⟩ (fun _ h => h.elim)
/-- Strings. -/
def rStr : Rl ByteArray where
  sz := 1
  R _ _ cs x := cs = [.string x]
  len h := by rw [h]; rfl
  mono h _ _ := h
/-- One's own row of strings is frozen for a while: it can be read. -/
theorem St.freezeStr {e : TypeId} {v : Value} {xs : List ByteArray} (st : St Z w0 w (Row e 1 v xs.length (xs.map Value.string) :: L)) (hl : xs.length < 1073741824) : ∃ Z', (∀ k, Z k → Z' k) ∧ (∀ k, Z k → w.heap[k]? = w0.heap[k]?) ∧ rStr.sl Z' w v xs ∧ St Z' w w L ∧ ∀ w' L', St Z' w w' L' → St Z w0 w' (Row e 1 v xs.length (xs.map Value.string) :: L') := by
  obtain ⟨S, ⟨hS, hr⟩, h1, h2⟩ := st.freeze
  refine ⟨_, fun k h => .inl h, st.old, ?_, h1, h2⟩
  refine Rl.sl_row rStr hr (fun k hk => .inr ((hS k).2 hk)) rfl rfl (by omega) ?_
  intro i x hx
  show _ = [Value.string x]
  rw [Nat.mul_one, List.take_one, List.head?_drop, List.getElem?_map, hx]
  rfl
theorem fresh_str {b : Nat} {x : ByteArray} (h : RowZ Z w0 ⟨b, 0, none⟩ [.string x]) : rStr.sl Z w0 (.slice (some ⟨b, 0, none⟩) 1 1) [x] := by
  refine ⟨some ⟨b, 0, none⟩, 1, rfl, by simp, fun i y hy => ?_⟩
  cases i with
  | zero => cases hy; exact ⟨⟨b, 0, none⟩, _, rfl, h, rfl⟩
  | succ i => simp at hy
end
end Go.Eng
