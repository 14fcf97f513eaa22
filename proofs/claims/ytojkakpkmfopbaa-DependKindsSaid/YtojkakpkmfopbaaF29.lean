/- The argument, opened. -/
import Derived.Test.YtojkakpkmfopbaaEngR
import Derived.Test.YtojkakpkmfopbaaF28
set_option linter.unusedVariables false
set_option maxRecDepth 20000
namespace Go.Ped
open Go Go.Eng Go.RowKit Go.Proofs

theorem fl36 : fieldsB Try.prog 36 = some [(34, 0, 1), (2, 1, 1), (9, 2, 1)] := by kernel_rfl
theorem co36 : Try.prog.cellsOf 36 = 3 := by kernel_rfl
theorem fl38 : fieldsB Try.prog 38 = some [(9, 0, 1), (36, 1, 3)] := by kernel_rfl
theorem co38 : Try.prog.cellsOf 38 = 4 := by kernel_rfl
theorem fl40 : fieldsB Try.prog 40 = some [(33, 0, 1), (38, 1, 4)] := by kernel_rfl
theorem co40 : Try.prog.cellsOf 40 = 5 := by kernel_rfl
theorem fl54 : fieldsB Try.prog 54 = some [(9, 0, 1), (52, 1, 1)] := by kernel_rfl
theorem co54 : Try.prog.cellsOf 54 = 2 := by kernel_rfl
theorem bo38 : Nat.blt 0 (Try.prog.bytesOf 38) = true := by kernel_rfl
theorem fl59 : fieldsB Try.prog 59 = some [(56, 0, 1), (38, 1, 4), (57, 5, 1)] := by kernel_rfl
theorem co59 : Try.prog.cellsOf 59 = 6 := by kernel_rfl
theorem bo59 : Nat.blt 0 (Try.prog.bytesOf 59) = true := by kernel_rfl
theorem fl61 : fieldsB Try.prog 61 = some [(51, 0, 1), (54, 1, 2), (55, 3, 1), (59, 4, 6), (59, 10, 6)] := by kernel_rfl
theorem co61 : Try.prog.cellsOf 61 = 16 := by kernel_rfl
theorem fl31 : fieldsB Try.prog 31 = some [(9, 0, 1), (28, 1, 1), (29, 2, 1)] := by kernel_rfl
theorem co31 : Try.prog.cellsOf 31 = 3 := by kernel_rfl
theorem bo40 : Nat.blt 0 (Try.prog.bytesOf 40) = true := by kernel_rfl
theorem bo61 : Nat.blt 0 (Try.prog.bytesOf 61) = true := by kernel_rfl
theorem bo31 : Nat.blt 0 (Try.prog.bytesOf 31) = true := by kernel_rfl
theorem len2 {cs : List Value} (h : cs.length = 2) : ∃ c0 c1, cs = [c0, c1] := by
  match cs, h with
  | [c0, c1], _ => exact ⟨c0, c1, rfl⟩
theorem len3 {cs : List Value} (h : cs.length = 3) : ∃ c0 c1 c2, cs = [c0, c1, c2] := by
  match cs, h with
  | [c0, c1, c2], _ => exact ⟨c0, c1, c2, rfl⟩
theorem len4 {cs : List Value} (h : cs.length = 4) : ∃ c0 c1 c2 c3, cs = [c0, c1, c2, c3] := by
  match cs, h with
  | [c0, c1, c2, c3], _ => exact ⟨c0, c1, c2, c3, rfl⟩
theorem len5 {cs : List Value} (h : cs.length = 5) : ∃ c0 c1 c2 c3 c4, cs = [c0, c1, c2, c3, c4] := by
  match cs, h with
  | [c0, c1, c2, c3, c4], _ => exact ⟨c0, c1, c2, c3, c4, rfl⟩
theorem len6 {cs : List Value} (h : cs.length = 6) : ∃ c0 c1 c2 c3 c4 c5, cs = [c0, c1, c2, c3, c4, c5] := by
  match cs, h with
  | [c0, c1, c2, c3, c4, c5], _ => exact ⟨c0, c1, c2, c3, c4, c5, rfl⟩
theorem len16 {cs : List Value} (h : cs.length = 16) : ∃ c0 c1 c2 c3 c4 c5 c6 c7 c8 c9 c10 c11 c12 c13 c14 c15, cs = [c0, c1, c2, c3, c4, c5, c6, c7, c8, c9, c10, c11, c12, c13, c14, c15] := by
  match cs, h with
  | [c0, c1, c2, c3, c4, c5, c6, c7, c8, c9, c10, c11, c12, c13, c14, c15], _ => exact ⟨c0, c1, c2, c3, c4, c5, c6, c7, c8, c9, c10, c11, c12, c13, c14, c15, rfl⟩
theorem op_Val {H : Type} {enc : TypeId × Value → H} {W : World} {base : Nat} {sp : Nat → Bool} {held : Bool} {fuel : Nat} {cs : List Value} {d : DataW H} {p : List MemPlace} (h : DataW.trod enc Try.prog W base sp held fuel 36 cs = some (d, p)) (hw : wOk Try.prog 36 d) : ∃ x, rVal.R (fun k => k < W.heap.size) W cs x := by
  obtain ⟨f, rfl⟩ := rd_pos h
  obtain ⟨hl, hf⟩ := rd_struct fl36 h hw
  rw [co36] at hl
  obtain ⟨c0, c1, c2, rfl⟩ := len3 hl
  obtain ⟨_, _, h0, w0⟩ := hf 0 _ _ _ rfl
  obtain ⟨k, e0⟩ := rd_int Try.underlying34 h0
  cases (show [c0] = [.int .i8 k] from e0)
  obtain ⟨_, _, h1, w1⟩ := hf 1 _ _ _ rfl
  obtain ⟨m, e1⟩ := rd_int Try.underlying2 h1
  cases (show [c1] = [.int .i64 m] from e1)
  obtain ⟨_, _, h2, w2⟩ := hf 2 _ _ _ rfl
  obtain ⟨s, e2⟩ := rd_str Try.underlying9 h2
  cases (show [c2] = [.string s] from e2)
  exact ⟨⟨k, m, s⟩, rfl⟩
theorem op_Trm {H : Type} {enc : TypeId × Value → H} {W : World} {base : Nat} {sp : Nat → Bool} {held : Bool} {fuel : Nat} {cs : List Value} {d : DataW H} {p : List MemPlace} (h : DataW.trod enc Try.prog W base sp held fuel 38 cs = some (d, p)) (hw : wOk Try.prog 38 d) : ∃ x, rTrm.R (fun k => k < W.heap.size) W cs x := by
  obtain ⟨f, rfl⟩ := rd_pos h
  obtain ⟨hl, hf⟩ := rd_struct fl38 h hw
  rw [co38] at hl
  obtain ⟨c0, c1, c2, c3, rfl⟩ := len4 hl
  obtain ⟨_, _, h0, w0⟩ := hf 0 _ _ _ rfl
  obtain ⟨v, e0⟩ := rd_str Try.underlying9 h0
  cases (show [c0] = [.string v] from e0)
  obtain ⟨_, _, h1, w1⟩ := hf 1 _ _ _ rfl
  obtain ⟨y, e1⟩ := op_Val h1 w1
  cases (show [c1, c2, c3] = [.int .i8 y.kind, .int .i64 y.num, .string y.text] from e1)
  exact ⟨⟨v, y⟩, rfl⟩
theorem op_Agr {H : Type} {enc : TypeId × Value → H} {W : World} {base : Nat} {sp : Nat → Bool} {held : Bool} {fuel : Nat} {cs : List Value} {d : DataW H} {p : List MemPlace} (h : DataW.trod enc Try.prog W base sp held fuel 40 cs = some (d, p)) (hw : wOk Try.prog 40 d) : ∃ x, rAgr.R (fun k => k < W.heap.size) W cs x := by
  obtain ⟨f, rfl⟩ := rd_pos h
  obtain ⟨hl, hf⟩ := rd_struct fl40 h hw
  rw [co40] at hl
  obtain ⟨c0, c1, c2, c3, c4, rfl⟩ := len5 hl
  obtain ⟨_, _, h0, w0⟩ := hf 0 _ _ _ rfl
  obtain ⟨g, e0⟩ := rd_int Try.underlying33 h0
  cases (show [c0] = [.int .i8 g] from e0)
  obtain ⟨_, _, h1, w1⟩ := hf 1 _ _ _ rfl
  obtain ⟨y, e1⟩ := op_Trm h1 w1
  cases (show [c1, c2, c3, c4] = [.string y.var, .int .i8 y.val.kind, .int .i64 y.val.num, .string y.val.text] from e1)
  exact ⟨⟨g, y⟩, rfl⟩
theorem op_Atm {H : Type} {enc : TypeId × Value → H} {W : World} {base : Nat} {sp : Nat → Bool} {held : Bool} {fuel : Nat} {cs : List Value} {d : DataW H} {p : List MemPlace} (h : DataW.trod enc Try.prog W base sp held fuel 54 cs = some (d, p)) (hw : wOk Try.prog 54 d) : ∃ (y : Atm) (av : Value), cs = [.string y.pred, av] ∧ rTrm.sl (fun k => k < W.heap.size) W av y.args := by
  obtain ⟨f, rfl⟩ := rd_pos h
  obtain ⟨hl, hf⟩ := rd_struct fl54 h hw
  rw [co54] at hl
  obtain ⟨c0, c1, rfl⟩ := len2 hl
  obtain ⟨_, _, h0, w0⟩ := hf 0 _ _ _ rfl
  obtain ⟨q, e0⟩ := rd_str Try.underlying9 h0
  cases (show [c0] = [.string q] from e0)
  obtain ⟨_, _, h1, w1⟩ := hf 1 _ _ _ rfl
  obtain ⟨f1, ef1⟩ := rd_pos h1
  rw [ef1] at h1
  obtain ⟨v1, xs, e1, s1⟩ := rd_slice (r := rTrm) Try.underlying52 co38 bo38 (fun _ _ _ h w => op_Trm h w) h1 w1
  cases (show [c1] = [v1] from e1)
  exact ⟨⟨q, xs⟩, _, rfl, s1⟩
theorem op_ExpN {H : Type} {enc : TypeId × Value → H} {W : World} {base : Nat} {sp : Nat → Bool} {held : Bool} : ∀ (fuel : Nat) {cs : List Value} {d : DataW H} {p : List MemPlace}, DataW.trod enc Try.prog W base sp held fuel 59 cs = some (d, p) → wOk Try.prog 59 d → ∃ x, rExp.R (fun k => k < W.heap.size) W cs x := by
  intro fuel
  induction fuel using Nat.strongRecOn with
  | _ fuel ih =>
    intro cs d p h hw
    obtain ⟨f, rfl⟩ := rd_pos h
    obtain ⟨hl, hf⟩ := rd_struct fl59 h hw
    rw [co59] at hl
    obtain ⟨c0, c1, c2, c3, c4, c5, rfl⟩ := len6 hl
    obtain ⟨_, _, h0, w0⟩ := hf 0 _ _ _ rfl
    obtain ⟨o, e0⟩ := rd_int Try.underlying56 h0
    cases (show [c0] = [.int .i8 o] from e0)
    obtain ⟨_, _, h1, w1⟩ := hf 1 _ _ _ rfl
    obtain ⟨y, e1⟩ := op_Trm h1 w1
    cases (show [c1, c2, c3, c4] = [.string y.var, .int .i8 y.val.kind, .int .i64 y.val.num, .string y.val.text] from e1)
    obtain ⟨_, _, h2, w2⟩ := hf 2 _ _ _ rfl
    obtain ⟨f2, ef2⟩ := rd_pos h2
    rw [ef2] at h2
    obtain ⟨v2, xs, e2, s2⟩ := rd_slice (r := rExp) Try.underlying57 co59 bo59 (fun _ _ _ h w => ih f2 (by omega) h w) h2 w2
    cases (show [c5] = [v2] from e2)
    exact ⟨.mk o y xs, rExp_mk (x := .mk o y xs) s2⟩
theorem op_Ltr {H : Type} {enc : TypeId × Value → H} {W : World} {base : Nat} {sp : Nat → Bool} {held : Bool} {fuel : Nat} {cs : List Value} {d : DataW H} {p : List MemPlace} (h : DataW.trod enc Try.prog W base sp held fuel 61 cs = some (d, p)) (hw : wOk Try.prog 61 d) : ∃ x, rLtr.R (fun k => k < W.heap.size) W cs x := by
  obtain ⟨f, rfl⟩ := rd_pos h
  obtain ⟨hl, hf⟩ := rd_struct fl61 h hw
  rw [co61] at hl
  obtain ⟨c0, c1, c2, c3, c4, c5, c6, c7, c8, c9, c10, c11, c12, c13, c14, c15, rfl⟩ := len16 hl
  obtain ⟨_, _, h0, w0⟩ := hf 0 _ _ _ rfl
  obtain ⟨k, e0⟩ := rd_int Try.underlying51 h0
  cases (show [c0] = [.int .i8 k] from e0)
  obtain ⟨_, _, h1, w1⟩ := hf 1 _ _ _ rfl
  obtain ⟨a, av, e1, s1⟩ := op_Atm h1 w1
  cases (show [c1, c2] = [.string a.pred, av] from e1)
  obtain ⟨_, _, h2, w2⟩ := hf 2 _ _ _ rfl
  obtain ⟨r, e2⟩ := rd_int Try.underlying55 h2
  cases (show [c3] = [.int .i8 r] from e2)
  obtain ⟨_, _, h3, w3⟩ := hf 3 _ _ _ rfl
  obtain ⟨x, hx3⟩ := op_ExpN _ h3 w3
  obtain ⟨k3, e3, s3⟩ := rExp_kids hx3
  cases (show [c4, c5, c6, c7, c8, c9] = [.int .i8 x.op, .string x.term.var, .int .i8 x.term.val.kind, .int .i64 x.term.val.num, .string x.term.val.text, k3] from e3)
  obtain ⟨_, _, h4, w4⟩ := hf 4 _ _ _ rfl
  obtain ⟨y, hx4⟩ := op_ExpN _ h4 w4
  obtain ⟨k4, e4, s4⟩ := rExp_kids hx4
  cases (show [c10, c11, c12, c13, c14, c15] = [.int .i8 y.op, .string y.term.var, .int .i8 y.term.val.kind, .int .i64 y.term.val.num, .string y.term.val.text, k4] from e4)
  exact ⟨⟨k, a, r, x, y⟩, _, _, _, rfl, s1, s3, s4⟩
theorem op_Rul {H : Type} {enc : TypeId × Value → H} {W : World} {base : Nat} {sp : Nat → Bool} {held : Bool} {fuel : Nat} {cs : List Value} {d : DataW H} {p : List MemPlace} (h : DataW.trod enc Try.prog W base sp held fuel 31 cs = some (d, p)) (hw : wOk Try.prog 31 d) : ∃ x, rRul.R (fun k => k < W.heap.size) W cs x := by
  obtain ⟨f, rfl⟩ := rd_pos h
  obtain ⟨hl, hf⟩ := rd_struct fl31 h hw
  rw [co31] at hl
  obtain ⟨c0, c1, c2, rfl⟩ := len3 hl
  obtain ⟨_, _, h0, w0⟩ := hf 0 _ _ _ rfl
  obtain ⟨q, e0⟩ := rd_str Try.underlying9 h0
  cases (show [c0] = [.string q] from e0)
  obtain ⟨_, _, h1, w1⟩ := hf 1 _ _ _ rfl
  obtain ⟨f1, ef1⟩ := rd_pos h1
  rw [ef1] at h1
  obtain ⟨v1, xs, e1, s1⟩ := rd_slice (r := rAgr) Try.underlying28 co40 bo40 (fun _ _ _ h w => op_Agr h w) h1 w1
  cases (show [c1] = [v1] from e1)
  obtain ⟨_, _, h2, w2⟩ := hf 2 _ _ _ rfl
  obtain ⟨f2, ef2⟩ := rd_pos h2
  rw [ef2] at h2
  obtain ⟨v2, ys, e2, s2⟩ := rd_slice (r := rLtr) Try.underlying29 co61 bo61 (fun _ _ _ h w => op_Ltr h w) h2 w2
  cases (show [c2] = [v2] from e2)
  exact ⟨⟨q, xs, ys⟩, _, _, rfl, s1, s2⟩
theorem op_Ruls {H : Type} {enc : TypeId × Value → H} {W : World} {base : Nat} {sp : Nat → Bool} {held : Bool} {fuel : Nat} {cs : List Value} {d : DataW H} {p : List MemPlace} (h : DataW.trod enc Try.prog W base sp held fuel 22 cs = some (d, p)) (hw : wOk Try.prog 22 d) : ∃ v rs, cs = [v] ∧ rRul.sl (fun k => k < W.heap.size) W v rs := by
  obtain ⟨f, rfl⟩ := rd_pos h
  exact rd_slice (r := rRul) Try.underlying22 co31 bo31 (fun _ _ _ h w => op_Rul h w) h hw
end Go.Ped
