/- The law's fixed program. -/
import Derived.Test.YtojkakpkmfopbaaEngO
import Derived.Test.YtojkakpkmfopbaaF22
set_option linter.unusedVariables false
set_option maxRecDepth 20000
namespace Go.Ped
open Go Go.Eng Go.RowKit Go.Proofs

theorem cal38 : CallOk Try.prog 38 := ⟨⟨Try.f38, Try.func38, rfl, by decide⟩⟩
theorem ts27 : sizeB Try.prog 27 = some 1 := by kernel_rfl
theorem ta27 : aggB Try.prog 27 = some true := by kernel_rfl
def zExp : Exp := .mk 0 zTrm []
def lOf (k : Int) (p : ByteArray) : Ltr := ⟨k, ⟨p, []⟩, 0, zExp, zExp⟩
def rZ : Rul := ⟨⟨#[122]⟩, [], [lOf 2 ⟨#[121]⟩, lOf 1 ⟨#[122]⟩]⟩
def rY : Rul := ⟨⟨#[121]⟩, [], [lOf 1 ⟨#[120]⟩]⟩
abbrev otherR : List Rul := [rZ, rY]
theorem rLtr_lOf {Z : Nat → Prop} {w : World} (k : Int) (p : ByteArray) : rLtr.R Z w [.int .i8 k, .string p, .slice none 0 0, .int .i8 0, .int .i8 0, .string ⟨#[]⟩, .int .i8 0, .int .i64 0, .string ⟨#[]⟩, .slice none 0 0, .int .i8 0, .string ⟨#[]⟩, .int .i8 0, .int .i64 0, .string ⟨#[]⟩, .slice none 0 0] (lOf k p) :=
  ⟨_, _, _, rfl, Rl.sl_nil _ _ _ _ _, Rl.sl_nil _ _ _ _ _, Rl.sl_nil _ _ _ _ _⟩
set_option maxHeartbeats 8000000 in
theorem other_spec {Z : Nat → Prop} {w0 w : World} {L : List Res} (st : St Z w0 w L) : Calls Try.prog 19 #[] w (Ret fun r w' => ∃ b Z' w1, Ext Z w0 Z' w1 ∧ r = .agg #[.slice (some ⟨b, 0, none⟩) 2 2] ∧ rRul.sl Z' w1 (.slice (some ⟨b, 0, none⟩) 2 2) otherR ∧ St Z' w1 w' L) := by
 refine calls_of_WC (m := 10) (rs := [.cell 0 27]) Try.func19 rfl rfl rfl rfl ?_
 refine Wsr ?_
 refine W1 (OpT.alloc st (.agg #[vn]) [vn] tz27 rfl (fun b1 w2 st3 => ?_))
 refine Wns ?_
 refine W1 (OpT.callC cal38 [] [] [(.int .i8 (2)), (vs 121)] rfl (ca2 rfl rfl) ?_)
 refine calls_of_WC (m := 9) (rs := [.cell 4 61]) Try.func38 rfl rfl rfl rfl ?_
 refine Wsr ?_
 refine W1 (OpT.alloc st3 (.agg #[(.int .i8 (0)), ve, vn, (.int .i8 (0)), (.int .i8 (0)), ve, (.int .i8 (0)), (ii 0), ve, vn, (.int .i8 (0)), ve, (.int .i8 (0)), (ii 0), ve, vn]) [(.int .i8 (0)), ve, vn, (.int .i8 (0)), (.int .i8 (0)), ve, (.int .i8 (0)), (ii 0), ve, vn, (.int .i8 (0)), ve, (.int .i8 (0)), (ii 0), ve, vn] tz61 rfl (fun b4 w5 st6 => ?_))
 refine Wns ?_
 refine W1 (OpT.move (.int .i8 (2)) rfl ?_)
 refine W1 (OpT.move (vs 121) rfl ?_)
 refine W1 (OpT.build [(0, (vs 121))] [(vs 121), vn] tz54 tp54 (mp1 rfl) rfl ?_)
 refine W1 (OpT.build [(0, (.int .i8 (2))), (1, (.agg #[(vs 121), vn]))] [(.int .i8 (2)), (vs 121), vn, (.int .i8 (0)), (.int .i8 (0)), ve, (.int .i8 (0)), (ii 0), ve, vn, (.int .i8 (0)), ve, (.int .i8 (0)), (ii 0), ve, vn] tz61 tp61 (mp2 rfl rfl) rfl ?_)
 refine WL.stepN (OpT.storeA st6 0 16 [(.int .i8 (2)), (vs 121), vn, (.int .i8 (0)), (.int .i8 (0)), ve, (.int .i8 (0)), (ii 0), ve, vn, (.int .i8 (0)), ve, (.int .i8 (0)), (ii 0), ve, vn] rfl ts61 rfl rfl rfl rfl rfl (fun w7 st8 => ?_))
 refine Wnt ?_
 refine WC.ret <| retQ.cell (.agg #[(.int .i8 (2)), (vs 121), vn, (.int .i8 (0)), (.int .i8 (0)), ve, (.int .i8 (0)), (ii 0), ve, vn, (.int .i8 (0)), ve, (.int .i8 (0)), (ii 0), ve, vn]) ⟨b4, 0, none⟩ rfl (run_loadVarA ta61 ts61 (ad := ⟨b4, 0, none⟩) (cs := [(.int .i8 (2)), (vs 121), vn, (.int .i8 (0)), (.int .i8 (0)), ve, (.int .i8 (0)), (ii 0), ve, vn, (.int .i8 (0)), ve, (.int .i8 (0)), (ii 0), ve, vn]) ((st8.rowB (i := 0) rfl).part 0 16) rfl) ?_
 refine ⟨_, rfl, ?_⟩
 refine W1 (OpT.callC cal38 [] [] [(.int .i8 (1)), (vs 122)] rfl (ca2 rfl rfl) ?_)
 refine calls_of_WC (m := 9) (rs := [.cell 4 61]) Try.func38 rfl rfl rfl rfl ?_
 refine Wsr ?_
 refine W1 (OpT.alloc st8 (.agg #[(.int .i8 (0)), ve, vn, (.int .i8 (0)), (.int .i8 (0)), ve, (.int .i8 (0)), (ii 0), ve, vn, (.int .i8 (0)), ve, (.int .i8 (0)), (ii 0), ve, vn]) [(.int .i8 (0)), ve, vn, (.int .i8 (0)), (.int .i8 (0)), ve, (.int .i8 (0)), (ii 0), ve, vn, (.int .i8 (0)), ve, (.int .i8 (0)), (ii 0), ve, vn] tz61 rfl (fun b9 w10 st11 => ?_))
 refine Wns ?_
 refine W1 (OpT.move (.int .i8 (1)) rfl ?_)
 refine W1 (OpT.move (vs 122) rfl ?_)
 refine W1 (OpT.build [(0, (vs 122))] [(vs 122), vn] tz54 tp54 (mp1 rfl) rfl ?_)
 refine W1 (OpT.build [(0, (.int .i8 (1))), (1, (.agg #[(vs 122), vn]))] [(.int .i8 (1)), (vs 122), vn, (.int .i8 (0)), (.int .i8 (0)), ve, (.int .i8 (0)), (ii 0), ve, vn, (.int .i8 (0)), ve, (.int .i8 (0)), (ii 0), ve, vn] tz61 tp61 (mp2 rfl rfl) rfl ?_)
 refine WL.stepN (OpT.storeA st11 0 16 [(.int .i8 (1)), (vs 122), vn, (.int .i8 (0)), (.int .i8 (0)), ve, (.int .i8 (0)), (ii 0), ve, vn, (.int .i8 (0)), ve, (.int .i8 (0)), (ii 0), ve, vn] rfl ts61 rfl rfl rfl rfl rfl (fun w12 st13 => ?_))
 refine Wnt ?_
 refine WC.ret <| retQ.cell (.agg #[(.int .i8 (1)), (vs 122), vn, (.int .i8 (0)), (.int .i8 (0)), ve, (.int .i8 (0)), (ii 0), ve, vn, (.int .i8 (0)), ve, (.int .i8 (0)), (ii 0), ve, vn]) ⟨b9, 0, none⟩ rfl (run_loadVarA ta61 ts61 (ad := ⟨b9, 0, none⟩) (cs := [(.int .i8 (1)), (vs 122), vn, (.int .i8 (0)), (.int .i8 (0)), ve, (.int .i8 (0)), (ii 0), ve, vn, (.int .i8 (0)), ve, (.int .i8 (0)), (ii 0), ve, vn]) ((st13.rowB (i := 0) rfl).part 0 16) rfl) ?_
 refine ⟨_, rfl, ?_⟩
 refine W1 (OpT.buildSlice st13 [(0, (.agg #[(.int .i8 (2)), (vs 121), vn, (.int .i8 (0)), (.int .i8 (0)), ve, (.int .i8 (0)), (ii 0), ve, vn, (.int .i8 (0)), ve, (.int .i8 (0)), (ii 0), ve, vn])), (1, (.agg #[(.int .i8 (1)), (vs 122), vn, (.int .i8 (0)), (.int .i8 (0)), ve, (.int .i8 (0)), (ii 0), ve, vn, (.int .i8 (0)), ve, (.int .i8 (0)), (ii 0), ve, vn]))] [(.int .i8 (2)), (vs 121), vn, (.int .i8 (0)), (.int .i8 (0)), ve, (.int .i8 (0)), (ii 0), ve, vn, (.int .i8 (0)), ve, (.int .i8 (0)), (ii 0), ve, vn, (.int .i8 (1)), (vs 122), vn, (.int .i8 (0)), (.int .i8 (0)), ve, (.int .i8 (0)), (ii 0), ve, vn, (.int .i8 (0)), ve, (.int .i8 (0)), (ii 0), ve, vn] tu29 ts61 tz61 (mp2 rfl rfl) (by kernel_rfl) (by decide) (fun b14 w15 st16 => ?_))
 refine W1 (OpT.build [(0, (vs 122)), (2, (sl b14 2 2))] [(vs 122), vn, (sl b14 2 2)] tz31 tp31 (mp2 rfl rfl) rfl ?_)
 refine W1 (OpT.callC cal38 [] [] [(.int .i8 (1)), (vs 120)] rfl (ca2 rfl rfl) ?_)
 refine calls_of_WC (m := 9) (rs := [.cell 4 61]) Try.func38 rfl rfl rfl rfl ?_
 refine Wsr ?_
 refine W1 (OpT.alloc st16 (.agg #[(.int .i8 (0)), ve, vn, (.int .i8 (0)), (.int .i8 (0)), ve, (.int .i8 (0)), (ii 0), ve, vn, (.int .i8 (0)), ve, (.int .i8 (0)), (ii 0), ve, vn]) [(.int .i8 (0)), ve, vn, (.int .i8 (0)), (.int .i8 (0)), ve, (.int .i8 (0)), (ii 0), ve, vn, (.int .i8 (0)), ve, (.int .i8 (0)), (ii 0), ve, vn] tz61 rfl (fun b17 w18 st19 => ?_))
 refine Wns ?_
 refine W1 (OpT.move (.int .i8 (1)) rfl ?_)
 refine W1 (OpT.move (vs 120) rfl ?_)
 refine W1 (OpT.build [(0, (vs 120))] [(vs 120), vn] tz54 tp54 (mp1 rfl) rfl ?_)
 refine W1 (OpT.build [(0, (.int .i8 (1))), (1, (.agg #[(vs 120), vn]))] [(.int .i8 (1)), (vs 120), vn, (.int .i8 (0)), (.int .i8 (0)), ve, (.int .i8 (0)), (ii 0), ve, vn, (.int .i8 (0)), ve, (.int .i8 (0)), (ii 0), ve, vn] tz61 tp61 (mp2 rfl rfl) rfl ?_)
 refine WL.stepN (OpT.storeA st19 0 16 [(.int .i8 (1)), (vs 120), vn, (.int .i8 (0)), (.int .i8 (0)), ve, (.int .i8 (0)), (ii 0), ve, vn, (.int .i8 (0)), ve, (.int .i8 (0)), (ii 0), ve, vn] rfl ts61 rfl rfl rfl rfl rfl (fun w20 st21 => ?_))
 refine Wnt ?_
 refine WC.ret <| retQ.cell (.agg #[(.int .i8 (1)), (vs 120), vn, (.int .i8 (0)), (.int .i8 (0)), ve, (.int .i8 (0)), (ii 0), ve, vn, (.int .i8 (0)), ve, (.int .i8 (0)), (ii 0), ve, vn]) ⟨b17, 0, none⟩ rfl (run_loadVarA ta61 ts61 (ad := ⟨b17, 0, none⟩) (cs := [(.int .i8 (1)), (vs 120), vn, (.int .i8 (0)), (.int .i8 (0)), ve, (.int .i8 (0)), (ii 0), ve, vn, (.int .i8 (0)), ve, (.int .i8 (0)), (ii 0), ve, vn]) ((st21.rowB (i := 0) rfl).part 0 16) rfl) ?_
 refine ⟨_, rfl, ?_⟩
 refine W1 (OpT.buildSlice st21 [(0, (.agg #[(.int .i8 (1)), (vs 120), vn, (.int .i8 (0)), (.int .i8 (0)), ve, (.int .i8 (0)), (ii 0), ve, vn, (.int .i8 (0)), ve, (.int .i8 (0)), (ii 0), ve, vn]))] [(.int .i8 (1)), (vs 120), vn, (.int .i8 (0)), (.int .i8 (0)), ve, (.int .i8 (0)), (ii 0), ve, vn, (.int .i8 (0)), ve, (.int .i8 (0)), (ii 0), ve, vn] tu29 ts61 tz61 (mp1 rfl) (by kernel_rfl) (by decide) (fun b22 w23 st24 => ?_))
 refine W1 (OpT.build [(0, (vs 121)), (2, (sl b22 1 1))] [(vs 121), vn, (sl b22 1 1)] tz31 tp31 (mp2 rfl rfl) rfl ?_)
 refine W1 (OpT.buildSlice st24 [(0, (.agg #[(vs 122), vn, (sl b14 2 2)])), (1, (.agg #[(vs 121), vn, (sl b22 1 1)]))] [(vs 122), vn, (sl b14 2 2), (vs 121), vn, (sl b22 1 1)] tu22 ts31 tz31 (mp2 rfl rfl) (by kernel_rfl) (by decide) (fun b25 w26 st27 => ?_))
 refine W1 (OpT.build [(0, (sl b25 2 2))] [(sl b25 2 2)] tz27 tp27 (mp1 rfl) rfl ?_)
 refine WL.stepN (OpT.storeA st27 6 1 [(sl b25 2 2)] rfl ts27 rfl rfl rfl rfl rfl (fun w28 st29 => ?_))
 refine Wnt ?_
 refine WC.ret <| retQ.cell (.agg #[(sl b25 2 2)]) ⟨b1, 0, none⟩ rfl (run_loadVarA ta27 ts27 (ad := ⟨b1, 0, none⟩) (cs := [(sl b25 2 2)]) ((st29.rowB (i := 6) rfl).part 0 1) rfl) ?_
 obtain ⟨Z1, h1, r1, st1⟩ := St.freezeBX ((St.selD 7 [3, 1, 0] rfl rfl (by decide) st29) : St Z w0 w28 (Blk b14 61 [(.int .i8 (2)), (vs 121), vn, (.int .i8 (0)), (.int .i8 (0)), ve, (.int .i8 (0)), (ii 0), ve, vn, (.int .i8 (0)), ve, (.int .i8 (0)), (ii 0), ve, vn, (.int .i8 (1)), (vs 122), vn, (.int .i8 (0)), (.int .i8 (0)), ve, (.int .i8 (0)), (ii 0), ve, vn, (.int .i8 (0)), ve, (.int .i8 (0)), (ii 0), ve, vn] :: Blk b22 61 [(.int .i8 (1)), (vs 120), vn, (.int .i8 (0)), (.int .i8 (0)), ve, (.int .i8 (0)), (ii 0), ve, vn, (.int .i8 (0)), ve, (.int .i8 (0)), (ii 0), ve, vn] :: Blk b25 31 [(vs 122), vn, (sl b14 2 2), (vs 121), vn, (sl b22 1 1)] :: L))
 obtain ⟨Z2, h2, r2, st2⟩ := st1.freezeBX
 obtain ⟨Z3, h3, r3, st3⟩ := st2.freezeBX
 have e1 : rLtr.sl Z3 w28 (.slice (some ⟨b14, 0, none⟩) 2 2) rZ.body := Rl.sl_blk (xs := [lOf 2 ⟨#[121]⟩, lOf 1 ⟨#[122]⟩]) ((h2.trans h3).rowZ r1) (by decide) (((RowsOf.nil (P := rLtr.R Z3 w28) (sz := 16)).snoc rfl (rLtr_lOf 2 ⟨#[121]⟩)).snoc rfl (rLtr_lOf 1 ⟨#[122]⟩)).2
 have e2 : rLtr.sl Z3 w28 (.slice (some ⟨b22, 0, none⟩) 1 1) rY.body := Rl.sl_blk (xs := [lOf 1 ⟨#[120]⟩]) (h3.rowZ r2) (by decide) ((RowsOf.nil (P := rLtr.R Z3 w28) (sz := 16)).snoc rfl (rLtr_lOf 1 ⟨#[120]⟩)).2
 have e3 : rRul.sl Z3 w28 (.slice (some ⟨b25, 0, none⟩) 2 2) otherR := Rl.sl_blk (xs := [rZ, rY]) r3 (by decide) (((RowsOf.nil (P := rRul.R Z3 w28) (sz := 3)).snoc rfl ⟨_, _, rfl, Rl.sl_nil _ _ _ _ _, e1⟩).snoc rfl ⟨_, _, rfl, Rl.sl_nil _ _ _ _ _, e2⟩).2
 exact ⟨_, rfl, b25, Z3, _, h1.trans (h2.trans h3), rfl, e3, st3⟩

end Go.Ped
