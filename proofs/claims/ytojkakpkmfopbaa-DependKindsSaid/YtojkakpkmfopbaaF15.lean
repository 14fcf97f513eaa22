/- The law's fixed program, by parts. -/
import Derived.Test.YtojkakpkmfopbaaEngK
import Derived.Test.YtojkakpkmfopbaaF14
set_option linter.unusedVariables false
set_option maxRecDepth 20000
namespace Go.Ped
open Go Go.Eng Go.RowKit Go.Proofs

theorem tp54 : placesB Try.prog 54 = some [(0, 1), (1, 1)] := by kernel_rfl
theorem tz54 : zeroB Try.prog 54 = some (.agg #[(.string (⟨#[]⟩ : ByteArray)), (.slice none 0 0)]) := by kernel_rfl
theorem tp61 : placesB Try.prog 61 = some [(0, 1), (1, 2), (3, 1), (4, 6), (10, 6)] := by kernel_rfl
theorem latom_spec {Z : Nat → Prop} {w0 w : World} {L : List Res} (st : St Z w0 w L) (k : Int) (p : ByteArray) : Calls Try.prog 38 #[(.int .i8 (k)), (.string p)] w (Ret fun r w' => r = .agg #[(.int .i8 k), (.string p), vn, (.int .i8 (0)), (.int .i8 (0)), ve, (.int .i8 (0)), (ii 0), ve, vn, (.int .i8 (0)), ve, (.int .i8 (0)), (ii 0), ve, vn] ∧ St Z w0 w' L) := by
 refine calls_of_WC (m := 9) (rs := [.cell 4 61]) Try.func38 rfl rfl rfl rfl ?_
 refine Wsr ?_
 refine W1 (OpT.alloc st (.agg #[(.int .i8 (0)), ve, vn, (.int .i8 (0)), (.int .i8 (0)), ve, (.int .i8 (0)), (ii 0), ve, vn, (.int .i8 (0)), ve, (.int .i8 (0)), (ii 0), ve, vn]) [(.int .i8 (0)), ve, vn, (.int .i8 (0)), (.int .i8 (0)), ve, (.int .i8 (0)), (ii 0), ve, vn, (.int .i8 (0)), ve, (.int .i8 (0)), (ii 0), ve, vn] tz61 rfl (fun b1 w2 st3 => ?_))
 refine Wns ?_
 refine W1 (OpT.move (.int .i8 (k)) rfl ?_)
 refine W1 (OpT.move (.string p) rfl ?_)
 refine W1 (OpT.build [(0, (.string p))] [(.string p), vn] tz54 tp54 (mp1 rfl) rfl ?_)
 refine W1 (OpT.build [(0, (.int .i8 (k))), (1, (.agg #[(.string p), vn]))] [(.int .i8 (k)), (.string p), vn, (.int .i8 (0)), (.int .i8 (0)), ve, (.int .i8 (0)), (ii 0), ve, vn, (.int .i8 (0)), ve, (.int .i8 (0)), (ii 0), ve, vn] tz61 tp61 (mp2 rfl rfl) rfl ?_)
 refine WL.stepN (OpT.storeA st3 0 16 [(.int .i8 (k)), (.string p), vn, (.int .i8 (0)), (.int .i8 (0)), ve, (.int .i8 (0)), (ii 0), ve, vn, (.int .i8 (0)), ve, (.int .i8 (0)), (ii 0), ve, vn] rfl ts61 rfl rfl rfl rfl rfl (fun w4 st5 => ?_))
 refine Wnt ?_
 refine WC.ret <| retQ.cell (.agg #[(.int .i8 (k)), (.string p), vn, (.int .i8 (0)), (.int .i8 (0)), ve, (.int .i8 (0)), (ii 0), ve, vn, (.int .i8 (0)), ve, (.int .i8 (0)), (ii 0), ve, vn]) ⟨b1, 0, none⟩ rfl (run_loadVarA ta61 ts61 (ad := ⟨b1, 0, none⟩) (cs := [(.int .i8 (k)), (.string p), vn, (.int .i8 (0)), (.int .i8 (0)), ve, (.int .i8 (0)), (ii 0), ve, vn, (.int .i8 (0)), ve, (.int .i8 (0)), (ii 0), ve, vn]) ((st5.rowB (i := 0) rfl).part 0 16) rfl) ?_
 exact ⟨_, rfl, rfl, (St.selT [Blk b1 61 [(.int .i8 (k)), (.string p), vn, (.int .i8 (0)), (.int .i8 (0)), ve, (.int .i8 (0)), (ii 0), ve, vn, (.int .i8 (0)), ve, (.int .i8 (0)), (ii 0), ve, vn]] [] rfl (by decide) st5)⟩

end Go.Ped
