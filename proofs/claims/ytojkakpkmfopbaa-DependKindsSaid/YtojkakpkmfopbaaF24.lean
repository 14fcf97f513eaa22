/- The graph of the law's fixed program. -/
import Derived.Test.YtojkakpkmfopbaaEngP
import Derived.Test.YtojkakpkmfopbaaF23
set_option linter.unusedVariables false
set_option maxRecDepth 20000
namespace Go.Ped
open Go Go.Eng Go.RowKit Go.Proofs

theorem tz99 : zeroB Try.prog 99 = some (.map none) := by kernel_rfl
theorem ts99 : sizeB Try.prog 99 = some 1 := by kernel_rfl
theorem ta99 : aggB Try.prog 99 = some false := by kernel_rfl
theorem tu99 : Try.prog.underlying 99 = some (.map 9 68) := by kernel_rfl
theorem cal48 : CallOk Try.prog 48 := ⟨⟨Try.f48, Try.func48, rfl, by decide⟩⟩
set_option maxHeartbeats 8000000 in
theorem draw_other {Z : Nat → Prop} {w0 w : World} {L : List Res} (st : St Z w0 w L) {rb : Nat} (hr : rRul.sl Z w0 (.slice (some ⟨rb, 0, none⟩) 2 2) otherR) : Calls Try.prog 35 #[(.agg #[(sl rb 2 2)])] w (Ret fun r w' => ∃ mb g1 c1 x1 g2 c2 x2, r = .map (some mb) ∧ St Z w0 w' (Mp Value.string (fun v : Value => v) mb ([((⟨#[122]⟩ : ByteArray), (sl g1 2 c1)), ((⟨#[121]⟩ : ByteArray), (sl g2 1 c2)), ((⟨#[120]⟩ : ByteArray), vn)] : List (ByteArray × Value)) :: Blk g1 9 (cx [(vs 121), (vs 122)] x1) :: Blk g2 9 (cx [(vs 120)] x2) :: L)) := by
 refine calls_of_WC (m := 34) (rs := [.tmp 2]) Try.func35 rfl rfl rfl rfl ?_
 refine Wsr ?_
 refine W1 (OpT.box st (.agg #[(sl rb 2 2)]) [(sl rb 2 2)] rfl rfl (fun b1 w2 st3 => ?_))
 refine W1 (OpT.assign (.map none) rfl ?_)
 refine Wns ?_
 refine W1 (OpT.makeMap Value.string (fun v : Value => v) st3 (fun b4 w5 st6 => ?_))
 refine W1 (OpT.alloc st6 (.map none) [(.map none)] tz99 rfl (fun b7 w8 st9 => ?_))
 refine WL.stepN (OpT.storeS st9 0 (.map (some b4)) rfl ts99 rfl rfl rfl rfl rfl (fun w10 st11 => ?_))
 refine Wnt ?_
 refine WC.seq ?_
 refine Wsr ?_
 refine W1 (OpT.field 0 ⟨b1, 0, none⟩ ⟨b1, 0, none⟩ tf27_0 rfl rfl ?_)
 refine W1 (OpT.loadS ⟨b1, 0, none⟩ (sl rb 2 2) ta22 rfl (st11.cellB (i := 2) rfl rfl) ?_)
 refine W1 (OpT.litV (v := (ni 2)) (v' := (ii 2)) rfl (fun hk => OpT.lenS _ 2 2 rfl tu22 rfl hk) ?_)
 refine W1 (OpT.move (ii 0) rfl ?_)
 refine Wnt ?_
 refine WC.block ?_
 refine WC.unroll 12 ?_
 refine UL.cut (fun r => r 3 = (pt b7 0) ∧ r 10 = (sl rb 2 2) ∧ r 11 = (ii 2) ∧ r 12 = (ii 0)) ⟨rfl, rfl, rfl, rfl⟩ ?_
 have st17 : St Z w0 w10 (Blk b7 99 [(.map (some b4))] :: Mp Value.string (fun v : Value => v) b4 ([] : List (ByteArray × Value)) :: L) := (St.selD 3 [0, 1] rfl rfl (by decide) st11)
 intro ρ12 hI18
 refine UL.go ?_
 refine Wsr ?_
 refine W1 (OpT.lit (b := (decide ((0 : Int) < (2 : Int)))) (c := true) (by decide) (fun hk => OpT.ilt .i64 (0) (2) hI18.2.2.2 hI18.2.2.1 hk) ?_)
 refine Wnt ?_
 refine WC.seq ?_
 refine WC.condT rfl ?_
 refine WC.skip ?_
 refine thenQ_n ?_
 refine WC.seq ?_
 refine WC.block ?_
 refine Wsr ?_
 refine W1 (OpT.idxX tu22 ts31 hr hI18.2.1 .i64 (0) hI18.2.2.2 rfl (fun ad20 cs21 hr22 hR23 => ?_))
 have hR23c := hR23
 obtain ⟨hv24, bv25, rfl, hh26, hb27⟩ := hR23
 refine W1 (OpT.loadA ad20 3 [(vs 122), hv24, bv25] ta31 ts31 rfl ((hr22.at st17).part 0 3) rfl ?_)
 refine W1 (OpT.alloc st17 (.agg #[ve, vn, vn]) [ve, vn, vn] tz31 rfl (fun b28 w29 st30 => ?_))
 refine WL.stepN (OpT.storeA st30 0 3 [(vs 122), hv24, bv25] rfl ts31 rfl rfl (aC rfl (aC (Rl.sl_one hh26) (aC (Rl.sl_one hb27) aN))) rfl rfl (fun w31 st32 => ?_))
 refine Wnt ?_
 refine WC.seq ?_
 refine Wsr ?_
 refine W1 (OpT.loadS ⟨b7, 0, none⟩ (.map (some b4)) ta99 hI18.1 (st32.cellB (i := 1) rfl rfl) ?_)
 refine W1 (OpT.field 0 ⟨b28, 0, none⟩ ⟨b28, 0, none⟩ tf31_0 rfl rfl ?_)
 refine W1 (OpT.loadS ⟨b28, 0, none⟩ (vs 122) ta9 rfl (st32.cellB (i := 0) rfl rfl) ?_)
 refine W1 (OpT.litV (v := (.tuple #[((mget ([] : List (ByteArray × Value)) (⟨#[122]⟩ : ByteArray)).getD vn), (.bool ((mget ([] : List (ByteArray × Value)) (⟨#[122]⟩ : ByteArray)).isSome))])) (v' := (.tuple #[vn, (.bool false)])) (by simp [mget_cons, mget_nil]) (fun hk => OpT.lookupOkV st32 2 rfl ko9 tu99 tz68 ((⟨#[122]⟩ : ByteArray)) rfl rfl hk) ?_)
 refine W1 (OpT.move (.tuple #[vn, (.bool false)]) rfl ?_)
 refine W1 (OpT.extract [vn, (.bool false)] vn rfl rfl ?_)
 refine W1 (OpT.extract [vn, (.bool false)] (.bool false) rfl rfl ?_)
 refine W1 (OpT.assign vn rfl ?_)
 refine W1 (OpT.assign (.bool false) rfl ?_)
 refine Wns ?_
 refine W1 (OpT.move (.bool false) rfl ?_)
 refine W1 (OpT.not false rfl ?_)
 refine Wnt ?_
 refine WC.condT rfl ?_
 refine WC.region ?_
 refine W1 (OpT.loadS ⟨b7, 0, none⟩ (.map (some b4)) ta99 hI18.1 (st32.cellB (i := 1) rfl rfl) ?_)
 refine W1 (OpT.field 0 ⟨b28, 0, none⟩ ⟨b28, 0, none⟩ tf31_0 rfl rfl ?_)
 refine W1 (OpT.loadS ⟨b28, 0, none⟩ (vs 122) ta9 rfl (st32.cellB (i := 0) rfl rfl) ?_)
 have e35 : mset ([] : List (ByteArray × Value)) (⟨#[122]⟩ : ByteArray) vn = ([((⟨#[122]⟩ : ByteArray), vn)] : List (ByteArray × Value)) := by simp [mset_cons, mset_nil]
 refine WL.stepN (OpT.mapSet st32 2 rfl ko9 tu99 ((⟨#[122]⟩ : ByteArray)) (vn) rfl rfl rfl (fun w33 st34 => ?_))
 rw [e35] at st34
 refine Wnr ?_
 refine W1 (OpT.field 2 ⟨b28, 0, none⟩ ⟨b28, 2, none⟩ tf31_2 rfl rfl ?_)
 refine W1 (OpT.loadS ⟨b28, 2, none⟩ bv25 ta29 rfl (st34.cellB (i := 0) rfl rfl) ?_)
 refine W1 (OpT.makeFunc [] [(pt b7 0), (pt b28 0)] mk0 (mk2 hI18.1 rfl) ?_)
 refine W1 (OpT.callC cal12 [] [] [bv25, (.func (.func 48) #[] #[(pt b7 0), (pt b28 0)])] rfl (ca2 rfl rfl) ?_)
 refine calls_of_WC (m := 24) (rs := []) Try.func12 rfl rfl rfl rfl ?_
 refine Wsr ?_
 refine W1 (OpT.move bv25 rfl ?_)
 refine W1 (OpT.litV (v := (ni 2)) (v' := (ii 2)) rfl (fun hk => OpT.lenR rfl tu29 hb27 rfl hk) ?_)
 refine W1 (OpT.move (ii 0) rfl ?_)
 refine Wnt ?_
 refine WC.block ?_
 refine WC.unroll 12 ?_
 refine UL.cut (fun r => r 1 = (.func (.func 48) #[] #[(pt b7 0), (pt b28 0)]) ∧ r 6 = bv25 ∧ r 7 = (ii 2) ∧ r 8 = (ii 0)) ⟨rfl, rfl, rfl, rfl⟩ ?_
 intro ρ36 hI41
 refine UL.go ?_
 refine Wsr ?_
 refine W1 (OpT.lit (b := (decide ((0 : Int) < (2 : Int)))) (c := true) (by decide) (fun hk => OpT.ilt .i64 (0) (2) hI41.2.2.2 hI41.2.2.1 hk) ?_)
 refine Wnt ?_
 refine WC.seq ?_
 refine WC.condT rfl ?_
 refine WC.skip ?_
 refine thenQ_n ?_
 refine WC.seq ?_
 refine WC.block ?_
 refine Wsr ?_
 refine W1 (OpT.idxX tu29 ts61 hb27 hI41.2.1 .i64 (0) hI41.2.2.2 rfl (fun ad43 cs44 hr45 hR46 => ?_))
 have hR46c := hR46
 obtain ⟨av47, lk48, rk49, rfl, ha50, hl51, hr52⟩ := hR46
 refine W1 (OpT.loadA ad43 16 [(.int .i8 (2)), (vs 121), av47, (.int .i8 ((lOf 2 ⟨#[121]⟩).rel)), (.int .i8 ((lOf 2 ⟨#[121]⟩).left.op)), (.string ((lOf 2 ⟨#[121]⟩).left.term.var)), (.int .i8 ((lOf 2 ⟨#[121]⟩).left.term.val.kind)), (.int .i64 ((lOf 2 ⟨#[121]⟩).left.term.val.num)), (.string ((lOf 2 ⟨#[121]⟩).left.term.val.text)), lk48, (.int .i8 ((lOf 2 ⟨#[121]⟩).right.op)), (.string ((lOf 2 ⟨#[121]⟩).right.term.var)), (.int .i8 ((lOf 2 ⟨#[121]⟩).right.term.val.kind)), (.int .i64 ((lOf 2 ⟨#[121]⟩).right.term.val.num)), (.string ((lOf 2 ⟨#[121]⟩).right.term.val.text)), rk49] ta61 ts61 rfl ((hr45.at st34).part 0 16) rfl ?_)
 refine W1 (OpT.alloc st34 (.agg #[(.int .i8 (0)), ve, vn, (.int .i8 (0)), (.int .i8 (0)), ve, (.int .i8 (0)), (ii 0), ve, vn, (.int .i8 (0)), ve, (.int .i8 (0)), (ii 0), ve, vn]) [(.int .i8 (0)), ve, vn, (.int .i8 (0)), (.int .i8 (0)), ve, (.int .i8 (0)), (ii 0), ve, vn, (.int .i8 (0)), ve, (.int .i8 (0)), (ii 0), ve, vn] tz61 rfl (fun b53 w54 st55 => ?_))
 refine WL.stepN (OpT.storeA st55 0 16 [(.int .i8 (2)), (vs 121), av47, (.int .i8 ((lOf 2 ⟨#[121]⟩).rel)), (.int .i8 ((lOf 2 ⟨#[121]⟩).left.op)), (.string ((lOf 2 ⟨#[121]⟩).left.term.var)), (.int .i8 ((lOf 2 ⟨#[121]⟩).left.term.val.kind)), (.int .i64 ((lOf 2 ⟨#[121]⟩).left.term.val.num)), (.string ((lOf 2 ⟨#[121]⟩).left.term.val.text)), lk48, (.int .i8 ((lOf 2 ⟨#[121]⟩).right.op)), (.string ((lOf 2 ⟨#[121]⟩).right.term.var)), (.int .i8 ((lOf 2 ⟨#[121]⟩).right.term.val.kind)), (.int .i64 ((lOf 2 ⟨#[121]⟩).right.term.val.num)), (.string ((lOf 2 ⟨#[121]⟩).right.term.val.text)), rk49] rfl ts61 rfl rfl (aC rfl (aC rfl (aC (Rl.sl_one ha50) (aC rfl (aC rfl (aC rfl (aC rfl (aC rfl (aC rfl (aC (Rl.sl_one hl51) (aC rfl (aC rfl (aC rfl (aC rfl (aC rfl (aC (Rl.sl_one hr52) aN)))))))))))))))) rfl rfl (fun w56 st57 => ?_))
 refine Wns ?_
 refine W1 (OpT.field 0 ⟨b53, 0, none⟩ ⟨b53, 0, none⟩ tf61_0 rfl rfl ?_)
 refine W1 (OpT.loadS ⟨b53, 0, none⟩ (.int .i8 (2)) ta51 rfl (st57.cellB (i := 0) rfl rfl) ?_)
 refine W1 (OpT.lit (b := (decide ((2 : Int) = (1 : Int)))) (c := false) (by decide) (fun hk => OpT.ieq .i8 (2) (1) rfl rfl hk) ?_)
 refine W1 (OpT.move (.bool false) rfl ?_)
 refine W2 (dj := 15) rfl (OpT.field 0 ⟨b53, 0, none⟩ ⟨b53, 0, none⟩ tf61_0 rfl rfl ?_)
 refine W2 (dj := 15) rfl (OpT.loadS ⟨b53, 0, none⟩ (.int .i8 (2)) ta51 rfl (st57.cellB (i := 0) rfl rfl) ?_)
 refine W2 (dj := 15) rfl (OpT.lit (b := (decide ((2 : Int) = (2 : Int)))) (c := true) (by decide) (fun hk => OpT.ieq .i8 (2) (2) rfl rfl hk) ?_)
 refine W1 (OpT.pickF (.bool true) rfl rfl ?_)
 refine Wnt ?_
 refine WC.condT rfl ?_
 refine WC.region ?_
 refine W1 (OpT.move (.func (.func 48) #[] #[(pt b7 0), (pt b28 0)]) hI41.1 ?_)
 refine W1 (OpT.loadA ⟨b53, 0, none⟩ 16 [(.int .i8 (2)), (vs 121), av47, (.int .i8 ((lOf 2 ⟨#[121]⟩).rel)), (.int .i8 ((lOf 2 ⟨#[121]⟩).left.op)), (.string ((lOf 2 ⟨#[121]⟩).left.term.var)), (.int .i8 ((lOf 2 ⟨#[121]⟩).left.term.val.kind)), (.int .i64 ((lOf 2 ⟨#[121]⟩).left.term.val.num)), (.string ((lOf 2 ⟨#[121]⟩).left.term.val.text)), lk48, (.int .i8 ((lOf 2 ⟨#[121]⟩).right.op)), (.string ((lOf 2 ⟨#[121]⟩).right.term.var)), (.int .i8 ((lOf 2 ⟨#[121]⟩).right.term.val.kind)), (.int .i64 ((lOf 2 ⟨#[121]⟩).right.term.val.num)), (.string ((lOf 2 ⟨#[121]⟩).right.term.val.text)), rk49] ta61 ts61 rfl ((st57.rowB (i := 0) rfl).part 0 16) rfl ?_)
 refine W1 (OpT.callC cal48 [] [(pt b7 0), (pt b28 0)] [(.agg #[(.int .i8 (2)), (vs 121), av47, (.int .i8 ((lOf 2 ⟨#[121]⟩).rel)), (.int .i8 ((lOf 2 ⟨#[121]⟩).left.op)), (.string ((lOf 2 ⟨#[121]⟩).left.term.var)), (.int .i8 ((lOf 2 ⟨#[121]⟩).left.term.val.kind)), (.int .i64 ((lOf 2 ⟨#[121]⟩).left.term.val.num)), (.string ((lOf 2 ⟨#[121]⟩).left.term.val.text)), lk48, (.int .i8 ((lOf 2 ⟨#[121]⟩).right.op)), (.string ((lOf 2 ⟨#[121]⟩).right.term.var)), (.int .i8 ((lOf 2 ⟨#[121]⟩).right.term.val.kind)), (.int .i64 ((lOf 2 ⟨#[121]⟩).right.term.val.num)), (.string ((lOf 2 ⟨#[121]⟩).right.term.val.text)), rk49]), (pt b7 0), (pt b28 0)] rfl (ca1 rfl) ?_)
 refine calls_of_WC (m := 32) (rs := []) Try.func48 rfl rfl rfl rfl ?_
 refine Wsr ?_
 refine W1 (OpT.box st57 (.agg #[(.int .i8 (2)), (vs 121), av47, (.int .i8 ((lOf 2 ⟨#[121]⟩).rel)), (.int .i8 ((lOf 2 ⟨#[121]⟩).left.op)), (.string ((lOf 2 ⟨#[121]⟩).left.term.var)), (.int .i8 ((lOf 2 ⟨#[121]⟩).left.term.val.kind)), (.int .i64 ((lOf 2 ⟨#[121]⟩).left.term.val.num)), (.string ((lOf 2 ⟨#[121]⟩).left.term.val.text)), lk48, (.int .i8 ((lOf 2 ⟨#[121]⟩).right.op)), (.string ((lOf 2 ⟨#[121]⟩).right.term.var)), (.int .i8 ((lOf 2 ⟨#[121]⟩).right.term.val.kind)), (.int .i64 ((lOf 2 ⟨#[121]⟩).right.term.val.num)), (.string ((lOf 2 ⟨#[121]⟩).right.term.val.text)), rk49]) [(.int .i8 (2)), (vs 121), av47, (.int .i8 ((lOf 2 ⟨#[121]⟩).rel)), (.int .i8 ((lOf 2 ⟨#[121]⟩).left.op)), (.string ((lOf 2 ⟨#[121]⟩).left.term.var)), (.int .i8 ((lOf 2 ⟨#[121]⟩).left.term.val.kind)), (.int .i64 ((lOf 2 ⟨#[121]⟩).left.term.val.num)), (.string ((lOf 2 ⟨#[121]⟩).left.term.val.text)), lk48, (.int .i8 ((lOf 2 ⟨#[121]⟩).right.op)), (.string ((lOf 2 ⟨#[121]⟩).right.term.var)), (.int .i8 ((lOf 2 ⟨#[121]⟩).right.term.val.kind)), (.int .i64 ((lOf 2 ⟨#[121]⟩).right.term.val.num)), (.string ((lOf 2 ⟨#[121]⟩).right.term.val.text)), rk49] rfl rfl (fun b58 w59 st60 => ?_))
 refine Wnt ?_
 refine WC.seq ?_
 have st61 : St Z w0 w59 (Blk b58 61 [(.int .i8 (2)), (vs 121), av47, (.int .i8 ((lOf 2 ⟨#[121]⟩).rel)), (.int .i8 ((lOf 2 ⟨#[121]⟩).left.op)), (.string ((lOf 2 ⟨#[121]⟩).left.term.var)), (.int .i8 ((lOf 2 ⟨#[121]⟩).left.term.val.kind)), (.int .i64 ((lOf 2 ⟨#[121]⟩).left.term.val.num)), (.string ((lOf 2 ⟨#[121]⟩).left.term.val.text)), lk48, (.int .i8 ((lOf 2 ⟨#[121]⟩).right.op)), (.string ((lOf 2 ⟨#[121]⟩).right.term.var)), (.int .i8 ((lOf 2 ⟨#[121]⟩).right.term.val.kind)), (.int .i64 ((lOf 2 ⟨#[121]⟩).right.term.val.num)), (.string ((lOf 2 ⟨#[121]⟩).right.term.val.text)), rk49] :: Blk b53 61 [(.int .i8 (2)), (vs 121), av47, (.int .i8 ((lOf 2 ⟨#[121]⟩).rel)), (.int .i8 ((lOf 2 ⟨#[121]⟩).left.op)), (.string ((lOf 2 ⟨#[121]⟩).left.term.var)), (.int .i8 ((lOf 2 ⟨#[121]⟩).left.term.val.kind)), (.int .i64 ((lOf 2 ⟨#[121]⟩).left.term.val.num)), (.string ((lOf 2 ⟨#[121]⟩).left.term.val.text)), lk48, (.int .i8 ((lOf 2 ⟨#[121]⟩).right.op)), (.string ((lOf 2 ⟨#[121]⟩).right.term.var)), (.int .i8 ((lOf 2 ⟨#[121]⟩).right.term.val.kind)), (.int .i64 ((lOf 2 ⟨#[121]⟩).right.term.val.num)), (.string ((lOf 2 ⟨#[121]⟩).right.term.val.text)), rk49] :: Blk b28 31 [(vs 122), hv24, bv25] :: Blk b7 99 [(.map (some b4))] :: Mp Value.string (fun v : Value => v) b4 ([((⟨#[122]⟩ : ByteArray), vn)] : List (ByteArray × Value)) :: L) := st60
 refine WC.drawW (L := (Blk b58 61 [(.int .i8 (2)), (vs 121), av47, (.int .i8 ((lOf 2 ⟨#[121]⟩).rel)), (.int .i8 ((lOf 2 ⟨#[121]⟩).left.op)), (.string ((lOf 2 ⟨#[121]⟩).left.term.var)), (.int .i8 ((lOf 2 ⟨#[121]⟩).left.term.val.kind)), (.int .i64 ((lOf 2 ⟨#[121]⟩).left.term.val.num)), (.string ((lOf 2 ⟨#[121]⟩).left.term.val.text)), lk48, (.int .i8 ((lOf 2 ⟨#[121]⟩).right.op)), (.string ((lOf 2 ⟨#[121]⟩).right.term.var)), (.int .i8 ((lOf 2 ⟨#[121]⟩).right.term.val.kind)), (.int .i64 ((lOf 2 ⟨#[121]⟩).right.term.val.num)), (.string ((lOf 2 ⟨#[121]⟩).right.term.val.text)), rk49] :: Blk b53 61 [(.int .i8 (2)), (vs 121), av47, (.int .i8 ((lOf 2 ⟨#[121]⟩).rel)), (.int .i8 ((lOf 2 ⟨#[121]⟩).left.op)), (.string ((lOf 2 ⟨#[121]⟩).left.term.var)), (.int .i8 ((lOf 2 ⟨#[121]⟩).left.term.val.kind)), (.int .i64 ((lOf 2 ⟨#[121]⟩).left.term.val.num)), (.string ((lOf 2 ⟨#[121]⟩).left.term.val.text)), lk48, (.int .i8 ((lOf 2 ⟨#[121]⟩).right.op)), (.string ((lOf 2 ⟨#[121]⟩).right.term.var)), (.int .i8 ((lOf 2 ⟨#[121]⟩).right.term.val.kind)), (.int .i64 ((lOf 2 ⟨#[121]⟩).right.term.val.num)), (.string ((lOf 2 ⟨#[121]⟩).right.term.val.text)), rk49] :: Blk b28 31 [(vs 122), hv24, bv25] :: Blk b7 99 [(.map (some b4))] :: Mp Value.string (fun v : Value => v) b4 ([((⟨#[122]⟩ : ByteArray), vn)] : List (ByteArray × Value)) :: L)) 12 (fun jj vals vv => match jj with | 0 => vv = (.map (some b4)) | 1 => vv = (pt b28 0) | 2 => vv = (vs 122) | 3 => vv = (.map (some b4)) | 4 => vv = (pt b28 0) | 5 => vv = (vs 122) | 6 => vv = vn | 7 => vv = (pt b58 1) | 8 => vv = (pt b58 1) | 9 => vv = (vs 121) | 10 => vv = (sl (bk vv) 1 1) | 11 => vv.oneCell' = true ∧ vv.cells = #[vv] | _ => True) (fun jj vals vv => match jj with | 11 => [Row 9 1 vv 1 [(vs 121)]] | 10 => [Blk (bk vv) 9 [(vs 121)]] | _ => []) (fun jj => match jj with | _ => []) (fun jj => match jj with | 11 => some 10 | _ => none) st61 fmix (by kernel_rfl) (by kernel_rfl) ((obS (obS (obS (obS (obS (obS (obS (obS (obS (obS (obS (obS ob0 (fun aa bb vv h hf => hf)) (fun aa bb vv h hf => hf)) (fun aa bb vv h hf => hf)) (fun aa bb vv h hf => hf)) (fun aa bb vv h hf => hf)) (fun aa bb vv h hf => hf)) (fun aa bb vv h hf => hf)) (fun aa bb vv h hf => hf)) (fun aa bb vv h hf => hf)) (fun aa bb vv h hf => hf)) (fun aa bb vv h hf => hf)) (fun aa bb vv h hf => hf))) ((obS (obS (obS (obS (obS (obS (obS (obS (obS (obS (obS (obS ob0 (fun aa bb vv h => rfl)) (fun aa bb vv h => rfl)) (fun aa bb vv h => rfl)) (fun aa bb vv h => rfl)) (fun aa bb vv h => rfl)) (fun aa bb vv h => rfl)) (fun aa bb vv h => rfl)) (fun aa bb vv h => rfl)) (fun aa bb vv h => rfl)) (fun aa bb vv h => rfl)) (fun aa bb vv h => rfl)) (fun aa bb vv h => rfl))) ((obS (obS (obS (obS (obS (obS (obS (obS (obS (obS (obS (obS ob0 ?_) ?_) ?_) ?_) ?_) ?_) ?_) ?_) ?_) ?_) ?_) ?_)) ?_
 ·intro vals ρ w63 X hd h0 st62
  have e64 : ρ 1 = (pt b7 0) := (h0 1 rfl).trans rfl
  refine W1 (OpT.loadS ⟨b7, 0, none⟩ (.map (some b4)) ta99 e64 (st62.cellB (i := 3) rfl rfl) ?_)
  refine WL.nil ?_
  exact oneQ.mk ⟨rfl, st62⟩
 ·intro vals ρ w66 X hd h0 st65
  have e67 : ρ 2 = (pt b28 0) := (h0 2 rfl).trans rfl
  refine W1 (OpT.field 0 ⟨b28, 0, none⟩ ⟨b28, 0, none⟩ tf31_0 e67 rfl ?_)
  refine WL.nil ?_
  exact oneQ.mk ⟨rfl, st65⟩
 ·intro vals ρ w69 X hd h0 st68
  have e70 : ρ 7 = (pt b28 0) := ((hd 1 rfl).2 7 rfl).trans (hd 1 rfl).1
  refine W1 (OpT.loadS ⟨b28, 0, none⟩ (vs 122) ta9 e70 (st68.cellB (i := 2) rfl rfl) ?_)
  refine WL.nil ?_
  exact oneQ.mk ⟨rfl, st68⟩
 ·intro vals ρ w72 X hd h0 st71
  have e73 : ρ 1 = (pt b7 0) := (h0 1 rfl).trans rfl
  refine W1 (OpT.loadS ⟨b7, 0, none⟩ (.map (some b4)) ta99 e73 (st71.cellB (i := 3) rfl rfl) ?_)
  refine WL.nil ?_
  exact oneQ.mk ⟨rfl, st71⟩
 ·intro vals ρ w75 X hd h0 st74
  have e76 : ρ 2 = (pt b28 0) := (h0 2 rfl).trans rfl
  refine W1 (OpT.field 0 ⟨b28, 0, none⟩ ⟨b28, 0, none⟩ tf31_0 e76 rfl ?_)
  refine WL.nil ?_
  exact oneQ.mk ⟨rfl, st74⟩
 ·intro vals ρ w78 X hd h0 st77
  have e79 : ρ 10 = (pt b28 0) := ((hd 4 rfl).2 10 rfl).trans (hd 4 rfl).1
  refine W1 (OpT.loadS ⟨b28, 0, none⟩ (vs 122) ta9 e79 (st77.cellB (i := 2) rfl rfl) ?_)
  refine WL.nil ?_
  exact oneQ.mk ⟨rfl, st77⟩
 ·intro vals ρ w81 X hd h0 st80
  have e82 : ρ 9 = (.map (some b4)) := ((hd 3 rfl).2 9 rfl).trans (hd 3 rfl).1
  have e83 : ρ 11 = (vs 122) := ((hd 5 rfl).2 11 rfl).trans (hd 5 rfl).1
  refine W1 (OpT.litV (v := ((mget ([((⟨#[122]⟩ : ByteArray), vn)] : List (ByteArray × Value)) (⟨#[122]⟩ : ByteArray)).getD vn)) (v' := vn) (by simp [mget_cons, mget_nil]) (fun hk => OpT.lookupV st80 4 rfl ko9 tu99 tz68 ((⟨#[122]⟩ : ByteArray)) e82 e83 hk) ?_)
  refine WL.nil ?_
  exact oneQ.mk ⟨rfl, st80⟩
 ·intro vals ρ w85 X hd h0 st84
  have e86 : ρ 3 = (pt b58 0) := (h0 3 rfl).trans rfl
  refine W1 (OpT.field 1 ⟨b58, 0, none⟩ ⟨b58, 1, none⟩ tf61_1 e86 rfl ?_)
  refine WL.nil ?_
  exact oneQ.mk ⟨rfl, st84⟩
 ·intro vals ρ w88 X hd h0 st87
  have e89 : ρ 13 = (pt b58 1) := ((hd 7 rfl).2 13 rfl).trans (hd 7 rfl).1
  refine W1 (OpT.field 0 ⟨b58, 1, none⟩ ⟨b58, 1, none⟩ tf54_0 e89 rfl ?_)
  refine WL.nil ?_
  exact oneQ.mk ⟨rfl, st87⟩
 ·intro vals ρ w91 X hd h0 st90
  have e92 : ρ 14 = (pt b58 1) := ((hd 8 rfl).2 14 rfl).trans (hd 8 rfl).1
  refine W1 (OpT.loadS ⟨b58, 1, none⟩ (vs 121) ta9 e92 (st90.cellB (i := 0) rfl rfl) ?_)
  refine WL.nil ?_
  exact oneQ.mk ⟨rfl, st90⟩
 ·intro vals ρ w94 X hd h0 st93
  have e95 : ρ 15 = (vs 121) := ((hd 9 rfl).2 15 rfl).trans (hd 9 rfl).1
  refine W1 (OpT.buildSlice st93 [(0, (vs 121))] [(vs 121)] tu68 ts9 tz9 (mp1 e95) (by kernel_rfl) (by decide) (fun b96 w97 st98 => ?_))
  refine WL.nil ?_
  exact oneQ.mk ⟨rfl, st98⟩
 ·intro vals ρ w100 X hd h0 st99
  have e101 : ρ 12 = vn := ((hd 6 rfl).2 12 rfl).trans (hd 6 rfl).1
  have e102 : ρ 16 = (sl (bk (vals 10)) 1 1) := ((hd 10 rfl).2 16 rfl).trans (hd 10 rfl).1
  have st103 := St.rowNil 9 1 (st99 : St Z w0 w100 (Blk (bk (vals 10)) 9 [(vs 121)] :: Blk b58 61 [(.int .i8 (2)), (vs 121), av47, (.int .i8 ((lOf 2 ⟨#[121]⟩).rel)), (.int .i8 ((lOf 2 ⟨#[121]⟩).left.op)), (.string ((lOf 2 ⟨#[121]⟩).left.term.var)), (.int .i8 ((lOf 2 ⟨#[121]⟩).left.term.val.kind)), (.int .i64 ((lOf 2 ⟨#[121]⟩).left.term.val.num)), (.string ((lOf 2 ⟨#[121]⟩).left.term.val.text)), lk48, (.int .i8 ((lOf 2 ⟨#[121]⟩).right.op)), (.string ((lOf 2 ⟨#[121]⟩).right.term.var)), (.int .i8 ((lOf 2 ⟨#[121]⟩).right.term.val.kind)), (.int .i64 ((lOf 2 ⟨#[121]⟩).right.term.val.num)), (.string ((lOf 2 ⟨#[121]⟩).right.term.val.text)), rk49] :: Blk b53 61 [(.int .i8 (2)), (vs 121), av47, (.int .i8 ((lOf 2 ⟨#[121]⟩).rel)), (.int .i8 ((lOf 2 ⟨#[121]⟩).left.op)), (.string ((lOf 2 ⟨#[121]⟩).left.term.var)), (.int .i8 ((lOf 2 ⟨#[121]⟩).left.term.val.kind)), (.int .i64 ((lOf 2 ⟨#[121]⟩).left.term.val.num)), (.string ((lOf 2 ⟨#[121]⟩).left.term.val.text)), lk48, (.int .i8 ((lOf 2 ⟨#[121]⟩).right.op)), (.string ((lOf 2 ⟨#[121]⟩).right.term.var)), (.int .i8 ((lOf 2 ⟨#[121]⟩).right.term.val.kind)), (.int .i64 ((lOf 2 ⟨#[121]⟩).right.term.val.num)), (.string ((lOf 2 ⟨#[121]⟩).right.term.val.text)), rk49] :: Blk b28 31 [(vs 122), hv24, bv25] :: Blk b7 99 [(.map (some b4))] :: Mp Value.string (fun v : Value => v) b4 ([((⟨#[122]⟩ : ByteArray), vn)] : List (ByteArray × Value)) :: (L ++ X)))
  have st104 : St Z w0 w100 (Blk (bk (vals 10)) 9 [(vs 121)] :: Row 9 1 vn 0 [] :: Blk b58 61 [(.int .i8 (2)), (vs 121), av47, (.int .i8 ((lOf 2 ⟨#[121]⟩).rel)), (.int .i8 ((lOf 2 ⟨#[121]⟩).left.op)), (.string ((lOf 2 ⟨#[121]⟩).left.term.var)), (.int .i8 ((lOf 2 ⟨#[121]⟩).left.term.val.kind)), (.int .i64 ((lOf 2 ⟨#[121]⟩).left.term.val.num)), (.string ((lOf 2 ⟨#[121]⟩).left.term.val.text)), lk48, (.int .i8 ((lOf 2 ⟨#[121]⟩).right.op)), (.string ((lOf 2 ⟨#[121]⟩).right.term.var)), (.int .i8 ((lOf 2 ⟨#[121]⟩).right.term.val.kind)), (.int .i64 ((lOf 2 ⟨#[121]⟩).right.term.val.num)), (.string ((lOf 2 ⟨#[121]⟩).right.term.val.text)), rk49] :: Blk b53 61 [(.int .i8 (2)), (vs 121), av47, (.int .i8 ((lOf 2 ⟨#[121]⟩).rel)), (.int .i8 ((lOf 2 ⟨#[121]⟩).left.op)), (.string ((lOf 2 ⟨#[121]⟩).left.term.var)), (.int .i8 ((lOf 2 ⟨#[121]⟩).left.term.val.kind)), (.int .i64 ((lOf 2 ⟨#[121]⟩).left.term.val.num)), (.string ((lOf 2 ⟨#[121]⟩).left.term.val.text)), lk48, (.int .i8 ((lOf 2 ⟨#[121]⟩).right.op)), (.string ((lOf 2 ⟨#[121]⟩).right.term.var)), (.int .i8 ((lOf 2 ⟨#[121]⟩).right.term.val.kind)), (.int .i64 ((lOf 2 ⟨#[121]⟩).right.term.val.num)), (.string ((lOf 2 ⟨#[121]⟩).right.term.val.text)), rk49] :: Blk b28 31 [(vs 122), hv24, bv25] :: Blk b7 99 [(.map (some b4))] :: Mp Value.string (fun v : Value => v) b4 ([((⟨#[122]⟩ : ByteArray), vn)] : List (ByteArray × Value)) :: (L ++ X)) := St.selT [Row 9 1 vn 0 [], Blk (bk (vals 10)) 9 [(vs 121)], Blk b58 61 [(.int .i8 (2)), (vs 121), av47, (.int .i8 ((lOf 2 ⟨#[121]⟩).rel)), (.int .i8 ((lOf 2 ⟨#[121]⟩).left.op)), (.string ((lOf 2 ⟨#[121]⟩).left.term.var)), (.int .i8 ((lOf 2 ⟨#[121]⟩).left.term.val.kind)), (.int .i64 ((lOf 2 ⟨#[121]⟩).left.term.val.num)), (.string ((lOf 2 ⟨#[121]⟩).left.term.val.text)), lk48, (.int .i8 ((lOf 2 ⟨#[121]⟩).right.op)), (.string ((lOf 2 ⟨#[121]⟩).right.term.var)), (.int .i8 ((lOf 2 ⟨#[121]⟩).right.term.val.kind)), (.int .i64 ((lOf 2 ⟨#[121]⟩).right.term.val.num)), (.string ((lOf 2 ⟨#[121]⟩).right.term.val.text)), rk49], Blk b53 61 [(.int .i8 (2)), (vs 121), av47, (.int .i8 ((lOf 2 ⟨#[121]⟩).rel)), (.int .i8 ((lOf 2 ⟨#[121]⟩).left.op)), (.string ((lOf 2 ⟨#[121]⟩).left.term.var)), (.int .i8 ((lOf 2 ⟨#[121]⟩).left.term.val.kind)), (.int .i64 ((lOf 2 ⟨#[121]⟩).left.term.val.num)), (.string ((lOf 2 ⟨#[121]⟩).left.term.val.text)), lk48, (.int .i8 ((lOf 2 ⟨#[121]⟩).right.op)), (.string ((lOf 2 ⟨#[121]⟩).right.term.var)), (.int .i8 ((lOf 2 ⟨#[121]⟩).right.term.val.kind)), (.int .i64 ((lOf 2 ⟨#[121]⟩).right.term.val.num)), (.string ((lOf 2 ⟨#[121]⟩).right.term.val.text)), rk49], Blk b28 31 [(vs 122), hv24, bv25], Blk b7 99 [(.map (some b4))], Mp Value.string (fun v : Value => v) b4 ([((⟨#[122]⟩ : ByteArray), vn)] : List (ByteArray × Value))] [1, 0, 2, 3, 4, 5, 6] rfl (by decide) st103
  refine W1 (OpT.appendK st104 1 tu68 ts9 tz9 rfl tb9 (by decide) e101 e102 rfl rfl (by decide) (by decide) (fun v105 w106 st107 hn108 => ?_))
  have o109 := st107.rowOne (i := 1) rfl
  have c110 := st107.rowCel (i := 1) rfl
  refine WL.nil ?_
  exact oneQ.mk ⟨⟨o109, c110⟩, (St.selD 7 [1, 0, 2, 3, 4, 5, 6] rfl rfl (by decide) st107)⟩
 intro vals ρ113 w112 hv h0 st111
 replace st111 : St Z w0 w112 (Blk (bk (vals 10)) 9 [(vs 121)] :: Row 9 1 (vals 11) 1 [(vs 121)] :: Blk b58 61 [(.int .i8 (2)), (vs 121), av47, (.int .i8 ((lOf 2 ⟨#[121]⟩).rel)), (.int .i8 ((lOf 2 ⟨#[121]⟩).left.op)), (.string ((lOf 2 ⟨#[121]⟩).left.term.var)), (.int .i8 ((lOf 2 ⟨#[121]⟩).left.term.val.kind)), (.int .i64 ((lOf 2 ⟨#[121]⟩).left.term.val.num)), (.string ((lOf 2 ⟨#[121]⟩).left.term.val.text)), lk48, (.int .i8 ((lOf 2 ⟨#[121]⟩).right.op)), (.string ((lOf 2 ⟨#[121]⟩).right.term.var)), (.int .i8 ((lOf 2 ⟨#[121]⟩).right.term.val.kind)), (.int .i64 ((lOf 2 ⟨#[121]⟩).right.term.val.num)), (.string ((lOf 2 ⟨#[121]⟩).right.term.val.text)), rk49] :: Blk b53 61 [(.int .i8 (2)), (vs 121), av47, (.int .i8 ((lOf 2 ⟨#[121]⟩).rel)), (.int .i8 ((lOf 2 ⟨#[121]⟩).left.op)), (.string ((lOf 2 ⟨#[121]⟩).left.term.var)), (.int .i8 ((lOf 2 ⟨#[121]⟩).left.term.val.kind)), (.int .i64 ((lOf 2 ⟨#[121]⟩).left.term.val.num)), (.string ((lOf 2 ⟨#[121]⟩).left.term.val.text)), lk48, (.int .i8 ((lOf 2 ⟨#[121]⟩).right.op)), (.string ((lOf 2 ⟨#[121]⟩).right.term.var)), (.int .i8 ((lOf 2 ⟨#[121]⟩).right.term.val.kind)), (.int .i64 ((lOf 2 ⟨#[121]⟩).right.term.val.num)), (.string ((lOf 2 ⟨#[121]⟩).right.term.val.text)), rk49] :: Blk b28 31 [(vs 122), hv24, bv25] :: Blk b7 99 [(.map (some b4))] :: Mp Value.string (fun v : Value => v) b4 ([((⟨#[122]⟩ : ByteArray), vn)] : List (ByteArray × Value)) :: L) := st111
 have e114 : ρ113 1 = (pt b7 0) := (h0 1 rfl).trans rfl
 have e115 : ρ113 3 = (pt b58 0) := (h0 3 rfl).trans rfl
 have e116 : ρ113 6 = (.map (some b4)) := ((hv 0 rfl).2 6 rfl).trans (hv 0 rfl).1
 have e117 : ρ113 8 = (vs 122) := ((hv 2 rfl).2 8 rfl).trans (hv 2 rfl).1
 have o118 : (vals 11).oneCell' = true := (hv 11 rfl).1.1
 have c119 : (vals 11).cells = #[vals 11] := (hv 11 rfl).1.2
 have e120 : ρ113 17 = (vals 11) := ((hv 11 rfl).2 17 rfl)
 have o121 : (vals 11).oneCell' = true := (hv 11 rfl).1.1
 have c122 : (vals 11).cells = #[vals 11] := (hv 11 rfl).1.2
 clear hv h0
 generalize bk (vals 10) = b123 at *
 generalize vals 11 = v124 at *
 obtain ⟨g125, cap126, ex127, rfl, hE128, hc129, hm130, st131⟩ := St.openRow (n := 1) (cs := [(vs 121)]) (by decide) ((St.selD 7 [1, 0, 2, 3, 4, 5, 6] rfl rfl (by decide) st111) : St Z w0 w112 (Row 9 1 v124 1 [(vs 121)] :: Blk b123 9 [(vs 121)] :: Blk b58 61 [(.int .i8 (2)), (vs 121), av47, (.int .i8 ((lOf 2 ⟨#[121]⟩).rel)), (.int .i8 ((lOf 2 ⟨#[121]⟩).left.op)), (.string ((lOf 2 ⟨#[121]⟩).left.term.var)), (.int .i8 ((lOf 2 ⟨#[121]⟩).left.term.val.kind)), (.int .i64 ((lOf 2 ⟨#[121]⟩).left.term.val.num)), (.string ((lOf 2 ⟨#[121]⟩).left.term.val.text)), lk48, (.int .i8 ((lOf 2 ⟨#[121]⟩).right.op)), (.string ((lOf 2 ⟨#[121]⟩).right.term.var)), (.int .i8 ((lOf 2 ⟨#[121]⟩).right.term.val.kind)), (.int .i64 ((lOf 2 ⟨#[121]⟩).right.term.val.num)), (.string ((lOf 2 ⟨#[121]⟩).right.term.val.text)), rk49] :: Blk b53 61 [(.int .i8 (2)), (vs 121), av47, (.int .i8 ((lOf 2 ⟨#[121]⟩).rel)), (.int .i8 ((lOf 2 ⟨#[121]⟩).left.op)), (.string ((lOf 2 ⟨#[121]⟩).left.term.var)), (.int .i8 ((lOf 2 ⟨#[121]⟩).left.term.val.kind)), (.int .i64 ((lOf 2 ⟨#[121]⟩).left.term.val.num)), (.string ((lOf 2 ⟨#[121]⟩).left.term.val.text)), lk48, (.int .i8 ((lOf 2 ⟨#[121]⟩).right.op)), (.string ((lOf 2 ⟨#[121]⟩).right.term.var)), (.int .i8 ((lOf 2 ⟨#[121]⟩).right.term.val.kind)), (.int .i64 ((lOf 2 ⟨#[121]⟩).right.term.val.num)), (.string ((lOf 2 ⟨#[121]⟩).right.term.val.text)), rk49] :: Blk b28 31 [(vs 122), hv24, bv25] :: Blk b7 99 [(.map (some b4))] :: Mp Value.string (fun v : Value => v) b4 ([((⟨#[122]⟩ : ByteArray), vn)] : List (ByteArray × Value)) :: L))
 replace st131 : St Z w0 w112 (Blk g125 9 (cx [(vs 121)] ex127) :: Blk b123 9 [(vs 121)] :: Blk b58 61 [(.int .i8 (2)), (vs 121), av47, (.int .i8 ((lOf 2 ⟨#[121]⟩).rel)), (.int .i8 ((lOf 2 ⟨#[121]⟩).left.op)), (.string ((lOf 2 ⟨#[121]⟩).left.term.var)), (.int .i8 ((lOf 2 ⟨#[121]⟩).left.term.val.kind)), (.int .i64 ((lOf 2 ⟨#[121]⟩).left.term.val.num)), (.string ((lOf 2 ⟨#[121]⟩).left.term.val.text)), lk48, (.int .i8 ((lOf 2 ⟨#[121]⟩).right.op)), (.string ((lOf 2 ⟨#[121]⟩).right.term.var)), (.int .i8 ((lOf 2 ⟨#[121]⟩).right.term.val.kind)), (.int .i64 ((lOf 2 ⟨#[121]⟩).right.term.val.num)), (.string ((lOf 2 ⟨#[121]⟩).right.term.val.text)), rk49] :: Blk b53 61 [(.int .i8 (2)), (vs 121), av47, (.int .i8 ((lOf 2 ⟨#[121]⟩).rel)), (.int .i8 ((lOf 2 ⟨#[121]⟩).left.op)), (.string ((lOf 2 ⟨#[121]⟩).left.term.var)), (.int .i8 ((lOf 2 ⟨#[121]⟩).left.term.val.kind)), (.int .i64 ((lOf 2 ⟨#[121]⟩).left.term.val.num)), (.string ((lOf 2 ⟨#[121]⟩).left.term.val.text)), lk48, (.int .i8 ((lOf 2 ⟨#[121]⟩).right.op)), (.string ((lOf 2 ⟨#[121]⟩).right.term.var)), (.int .i8 ((lOf 2 ⟨#[121]⟩).right.term.val.kind)), (.int .i64 ((lOf 2 ⟨#[121]⟩).right.term.val.num)), (.string ((lOf 2 ⟨#[121]⟩).right.term.val.text)), rk49] :: Blk b28 31 [(vs 122), hv24, bv25] :: Blk b7 99 [(.map (some b4))] :: Mp Value.string (fun v : Value => v) b4 ([((⟨#[122]⟩ : ByteArray), vn)] : List (ByteArray × Value)) :: L) := st131
 have e134 : mset ([((⟨#[122]⟩ : ByteArray), vn)] : List (ByteArray × Value)) (⟨#[122]⟩ : ByteArray) (sl g125 1 cap126) = ([((⟨#[122]⟩ : ByteArray), (sl g125 1 cap126))] : List (ByteArray × Value)) := by simp [mset_cons, mset_nil]
 refine WL.stepN (OpT.mapSet st131 6 rfl ko9 tu99 ((⟨#[122]⟩ : ByteArray)) ((sl g125 1 cap126)) e116 e117 e120 (fun w132 st133 => ?_))
 rw [e134] at st133
 refine Wns ?_
 refine W1 (OpT.loadS ⟨b7, 0, none⟩ (.map (some b4)) ta99 e114 (st133.cellB (i := 5) rfl rfl) ?_)
 refine W1 (OpT.field 1 ⟨b58, 0, none⟩ ⟨b58, 1, none⟩ tf61_1 e115 rfl ?_)
 refine W1 (OpT.field 0 ⟨b58, 1, none⟩ ⟨b58, 1, none⟩ tf54_0 rfl rfl ?_)
 refine W1 (OpT.loadS ⟨b58, 1, none⟩ (vs 121) ta9 rfl (st133.cellB (i := 2) rfl rfl) ?_)
 refine W1 (OpT.litV (v := (.tuple #[((mget ([((⟨#[122]⟩ : ByteArray), (sl g125 1 cap126))] : List (ByteArray × Value)) (⟨#[121]⟩ : ByteArray)).getD vn), (.bool ((mget ([((⟨#[122]⟩ : ByteArray), (sl g125 1 cap126))] : List (ByteArray × Value)) (⟨#[121]⟩ : ByteArray)).isSome))])) (v' := (.tuple #[vn, (.bool false)])) (by simp [mget_cons, mget_nil]) (fun hk => OpT.lookupOkV st133 6 rfl ko9 tu99 tz68 ((⟨#[121]⟩ : ByteArray)) rfl rfl hk) ?_)
 refine W1 (OpT.move (.tuple #[vn, (.bool false)]) rfl ?_)
 refine W1 (OpT.extract [vn, (.bool false)] vn rfl rfl ?_)
 refine W1 (OpT.extract [vn, (.bool false)] (.bool false) rfl rfl ?_)
 refine W1 (OpT.assign vn rfl ?_)
 refine W1 (OpT.assign (.bool false) rfl ?_)
 refine Wns ?_
 refine W1 (OpT.move (.bool false) rfl ?_)
 refine W1 (OpT.not false rfl ?_)
 refine Wnt ?_
 refine WC.condT rfl ?_
 refine WC.region ?_
 refine W1 (OpT.loadS ⟨b7, 0, none⟩ (.map (some b4)) ta99 e114 (st133.cellB (i := 5) rfl rfl) ?_)
 refine W1 (OpT.field 1 ⟨b58, 0, none⟩ ⟨b58, 1, none⟩ tf61_1 e115 rfl ?_)
 refine W1 (OpT.field 0 ⟨b58, 1, none⟩ ⟨b58, 1, none⟩ tf54_0 rfl rfl ?_)
 refine W1 (OpT.loadS ⟨b58, 1, none⟩ (vs 121) ta9 rfl (st133.cellB (i := 2) rfl rfl) ?_)
 have e137 : mset ([((⟨#[122]⟩ : ByteArray), (sl g125 1 cap126))] : List (ByteArray × Value)) (⟨#[121]⟩ : ByteArray) vn = ([((⟨#[122]⟩ : ByteArray), (sl g125 1 cap126)), ((⟨#[121]⟩ : ByteArray), vn)] : List (ByteArray × Value)) := by simp [mset_cons, mset_nil]
 refine WL.stepN (OpT.mapSet st133 6 rfl ko9 tu99 ((⟨#[121]⟩ : ByteArray)) (vn) rfl rfl rfl (fun w135 st136 => ?_))
 rw [e137] at st136
 refine WL.nil ?_
 refine retQ.none (.inl rfl) ?_
 refine ⟨_, rfl, ?_⟩
 refine WL.nil ?_
 refine blkQ_n ?_
 refine thenQ_n ?_
 refine WC.region ?_
 refine W1 (OpT.iadd .i64 (0) (1) (1) hI41.2.2.2 rfl (by decide) ?_)
 refine W1 (OpT.move (ii 1) rfl ?_)
 refine WL.nil ?_
 refine unrQ_n ?_
 refine UL.cut (fun r => r 1 = (.func (.func 48) #[] #[(pt b7 0), (pt b28 0)]) ∧ r 6 = bv25 ∧ r 7 = (ii 2) ∧ r 8 = (ii 1)) ⟨hI41.1, hI41.2.1, hI41.2.2.1, rfl⟩ ?_
 have st143 : St Z w0 w135 (Blk g125 9 (cx [(vs 121)] ex127) :: Blk b28 31 [(vs 122), hv24, bv25] :: Blk b7 99 [(.map (some b4))] :: Mp Value.string (fun v : Value => v) b4 ([((⟨#[122]⟩ : ByteArray), (sl g125 1 cap126)), ((⟨#[121]⟩ : ByteArray), vn)] : List (ByteArray × Value)) :: L) := (St.selD 7 [0, 4, 5, 6] rfl rfl (by decide) st136)
 intro ρ138 hI144
 refine UL.go ?_
 refine Wsr ?_
 refine W1 (OpT.lit (b := (decide ((1 : Int) < (2 : Int)))) (c := true) (by decide) (fun hk => OpT.ilt .i64 (1) (2) hI144.2.2.2 hI144.2.2.1 hk) ?_)
 refine Wnt ?_
 refine WC.seq ?_
 refine WC.condT rfl ?_
 refine WC.skip ?_
 refine thenQ_n ?_
 refine WC.seq ?_
 refine WC.block ?_
 refine Wsr ?_
 refine W1 (OpT.idxX tu29 ts61 hb27 hI144.2.1 .i64 (1) hI144.2.2.2 rfl (fun ad146 cs147 hr148 hR149 => ?_))
 have hR149c := hR149
 obtain ⟨av150, lk151, rk152, rfl, ha153, hl154, hr155⟩ := hR149
 refine W1 (OpT.loadA ad146 16 [(.int .i8 (1)), (vs 122), av150, (.int .i8 ((lOf 1 ⟨#[122]⟩).rel)), (.int .i8 ((lOf 1 ⟨#[122]⟩).left.op)), (.string ((lOf 1 ⟨#[122]⟩).left.term.var)), (.int .i8 ((lOf 1 ⟨#[122]⟩).left.term.val.kind)), (.int .i64 ((lOf 1 ⟨#[122]⟩).left.term.val.num)), (.string ((lOf 1 ⟨#[122]⟩).left.term.val.text)), lk151, (.int .i8 ((lOf 1 ⟨#[122]⟩).right.op)), (.string ((lOf 1 ⟨#[122]⟩).right.term.var)), (.int .i8 ((lOf 1 ⟨#[122]⟩).right.term.val.kind)), (.int .i64 ((lOf 1 ⟨#[122]⟩).right.term.val.num)), (.string ((lOf 1 ⟨#[122]⟩).right.term.val.text)), rk152] ta61 ts61 rfl ((hr148.at st143).part 0 16) rfl ?_)
 refine W1 (OpT.alloc st143 (.agg #[(.int .i8 (0)), ve, vn, (.int .i8 (0)), (.int .i8 (0)), ve, (.int .i8 (0)), (ii 0), ve, vn, (.int .i8 (0)), ve, (.int .i8 (0)), (ii 0), ve, vn]) [(.int .i8 (0)), ve, vn, (.int .i8 (0)), (.int .i8 (0)), ve, (.int .i8 (0)), (ii 0), ve, vn, (.int .i8 (0)), ve, (.int .i8 (0)), (ii 0), ve, vn] tz61 rfl (fun b156 w157 st158 => ?_))
 refine WL.stepN (OpT.storeA st158 0 16 [(.int .i8 (1)), (vs 122), av150, (.int .i8 ((lOf 1 ⟨#[122]⟩).rel)), (.int .i8 ((lOf 1 ⟨#[122]⟩).left.op)), (.string ((lOf 1 ⟨#[122]⟩).left.term.var)), (.int .i8 ((lOf 1 ⟨#[122]⟩).left.term.val.kind)), (.int .i64 ((lOf 1 ⟨#[122]⟩).left.term.val.num)), (.string ((lOf 1 ⟨#[122]⟩).left.term.val.text)), lk151, (.int .i8 ((lOf 1 ⟨#[122]⟩).right.op)), (.string ((lOf 1 ⟨#[122]⟩).right.term.var)), (.int .i8 ((lOf 1 ⟨#[122]⟩).right.term.val.kind)), (.int .i64 ((lOf 1 ⟨#[122]⟩).right.term.val.num)), (.string ((lOf 1 ⟨#[122]⟩).right.term.val.text)), rk152] rfl ts61 rfl rfl (aC rfl (aC rfl (aC (Rl.sl_one ha153) (aC rfl (aC rfl (aC rfl (aC rfl (aC rfl (aC rfl (aC (Rl.sl_one hl154) (aC rfl (aC rfl (aC rfl (aC rfl (aC rfl (aC (Rl.sl_one hr155) aN)))))))))))))))) rfl rfl (fun w159 st160 => ?_))
 refine Wns ?_
 refine W1 (OpT.field 0 ⟨b156, 0, none⟩ ⟨b156, 0, none⟩ tf61_0 rfl rfl ?_)
 refine W1 (OpT.loadS ⟨b156, 0, none⟩ (.int .i8 (1)) ta51 rfl (st160.cellB (i := 0) rfl rfl) ?_)
 refine W1 (OpT.lit (b := (decide ((1 : Int) = (1 : Int)))) (c := true) (by decide) (fun hk => OpT.ieq .i8 (1) (1) rfl rfl hk) ?_)
 refine W1 (OpT.move (.bool true) rfl ?_)
 refine WL.pass (dj := 15) (c := true) rfl rfl rfl rfl rfl ?_
 refine WL.pass (dj := 15) (c := true) rfl rfl rfl rfl rfl ?_
 refine WL.pass (dj := 15) (c := true) rfl rfl rfl rfl rfl ?_
 refine W1 (OpT.pickT (.bool true) rfl rfl ?_)
 refine Wnt ?_
 refine WC.condT rfl ?_
 refine WC.region ?_
 refine W1 (OpT.move (.func (.func 48) #[] #[(pt b7 0), (pt b28 0)]) hI144.1 ?_)
 refine W1 (OpT.loadA ⟨b156, 0, none⟩ 16 [(.int .i8 (1)), (vs 122), av150, (.int .i8 ((lOf 1 ⟨#[122]⟩).rel)), (.int .i8 ((lOf 1 ⟨#[122]⟩).left.op)), (.string ((lOf 1 ⟨#[122]⟩).left.term.var)), (.int .i8 ((lOf 1 ⟨#[122]⟩).left.term.val.kind)), (.int .i64 ((lOf 1 ⟨#[122]⟩).left.term.val.num)), (.string ((lOf 1 ⟨#[122]⟩).left.term.val.text)), lk151, (.int .i8 ((lOf 1 ⟨#[122]⟩).right.op)), (.string ((lOf 1 ⟨#[122]⟩).right.term.var)), (.int .i8 ((lOf 1 ⟨#[122]⟩).right.term.val.kind)), (.int .i64 ((lOf 1 ⟨#[122]⟩).right.term.val.num)), (.string ((lOf 1 ⟨#[122]⟩).right.term.val.text)), rk152] ta61 ts61 rfl ((st160.rowB (i := 0) rfl).part 0 16) rfl ?_)
 refine W1 (OpT.callC cal48 [] [(pt b7 0), (pt b28 0)] [(.agg #[(.int .i8 (1)), (vs 122), av150, (.int .i8 ((lOf 1 ⟨#[122]⟩).rel)), (.int .i8 ((lOf 1 ⟨#[122]⟩).left.op)), (.string ((lOf 1 ⟨#[122]⟩).left.term.var)), (.int .i8 ((lOf 1 ⟨#[122]⟩).left.term.val.kind)), (.int .i64 ((lOf 1 ⟨#[122]⟩).left.term.val.num)), (.string ((lOf 1 ⟨#[122]⟩).left.term.val.text)), lk151, (.int .i8 ((lOf 1 ⟨#[122]⟩).right.op)), (.string ((lOf 1 ⟨#[122]⟩).right.term.var)), (.int .i8 ((lOf 1 ⟨#[122]⟩).right.term.val.kind)), (.int .i64 ((lOf 1 ⟨#[122]⟩).right.term.val.num)), (.string ((lOf 1 ⟨#[122]⟩).right.term.val.text)), rk152]), (pt b7 0), (pt b28 0)] rfl (ca1 rfl) ?_)
 refine calls_of_WC (m := 32) (rs := []) Try.func48 rfl rfl rfl rfl ?_
 refine Wsr ?_
 refine W1 (OpT.box st160 (.agg #[(.int .i8 (1)), (vs 122), av150, (.int .i8 ((lOf 1 ⟨#[122]⟩).rel)), (.int .i8 ((lOf 1 ⟨#[122]⟩).left.op)), (.string ((lOf 1 ⟨#[122]⟩).left.term.var)), (.int .i8 ((lOf 1 ⟨#[122]⟩).left.term.val.kind)), (.int .i64 ((lOf 1 ⟨#[122]⟩).left.term.val.num)), (.string ((lOf 1 ⟨#[122]⟩).left.term.val.text)), lk151, (.int .i8 ((lOf 1 ⟨#[122]⟩).right.op)), (.string ((lOf 1 ⟨#[122]⟩).right.term.var)), (.int .i8 ((lOf 1 ⟨#[122]⟩).right.term.val.kind)), (.int .i64 ((lOf 1 ⟨#[122]⟩).right.term.val.num)), (.string ((lOf 1 ⟨#[122]⟩).right.term.val.text)), rk152]) [(.int .i8 (1)), (vs 122), av150, (.int .i8 ((lOf 1 ⟨#[122]⟩).rel)), (.int .i8 ((lOf 1 ⟨#[122]⟩).left.op)), (.string ((lOf 1 ⟨#[122]⟩).left.term.var)), (.int .i8 ((lOf 1 ⟨#[122]⟩).left.term.val.kind)), (.int .i64 ((lOf 1 ⟨#[122]⟩).left.term.val.num)), (.string ((lOf 1 ⟨#[122]⟩).left.term.val.text)), lk151, (.int .i8 ((lOf 1 ⟨#[122]⟩).right.op)), (.string ((lOf 1 ⟨#[122]⟩).right.term.var)), (.int .i8 ((lOf 1 ⟨#[122]⟩).right.term.val.kind)), (.int .i64 ((lOf 1 ⟨#[122]⟩).right.term.val.num)), (.string ((lOf 1 ⟨#[122]⟩).right.term.val.text)), rk152] rfl rfl (fun b161 w162 st163 => ?_))
 refine Wnt ?_
 refine WC.seq ?_
 have st164 : St Z w0 w162 (Blk g125 9 (cx [(vs 121)] ex127) :: Blk b161 61 [(.int .i8 (1)), (vs 122), av150, (.int .i8 ((lOf 1 ⟨#[122]⟩).rel)), (.int .i8 ((lOf 1 ⟨#[122]⟩).left.op)), (.string ((lOf 1 ⟨#[122]⟩).left.term.var)), (.int .i8 ((lOf 1 ⟨#[122]⟩).left.term.val.kind)), (.int .i64 ((lOf 1 ⟨#[122]⟩).left.term.val.num)), (.string ((lOf 1 ⟨#[122]⟩).left.term.val.text)), lk151, (.int .i8 ((lOf 1 ⟨#[122]⟩).right.op)), (.string ((lOf 1 ⟨#[122]⟩).right.term.var)), (.int .i8 ((lOf 1 ⟨#[122]⟩).right.term.val.kind)), (.int .i64 ((lOf 1 ⟨#[122]⟩).right.term.val.num)), (.string ((lOf 1 ⟨#[122]⟩).right.term.val.text)), rk152] :: Blk b156 61 [(.int .i8 (1)), (vs 122), av150, (.int .i8 ((lOf 1 ⟨#[122]⟩).rel)), (.int .i8 ((lOf 1 ⟨#[122]⟩).left.op)), (.string ((lOf 1 ⟨#[122]⟩).left.term.var)), (.int .i8 ((lOf 1 ⟨#[122]⟩).left.term.val.kind)), (.int .i64 ((lOf 1 ⟨#[122]⟩).left.term.val.num)), (.string ((lOf 1 ⟨#[122]⟩).left.term.val.text)), lk151, (.int .i8 ((lOf 1 ⟨#[122]⟩).right.op)), (.string ((lOf 1 ⟨#[122]⟩).right.term.var)), (.int .i8 ((lOf 1 ⟨#[122]⟩).right.term.val.kind)), (.int .i64 ((lOf 1 ⟨#[122]⟩).right.term.val.num)), (.string ((lOf 1 ⟨#[122]⟩).right.term.val.text)), rk152] :: Blk b28 31 [(vs 122), hv24, bv25] :: Blk b7 99 [(.map (some b4))] :: Mp Value.string (fun v : Value => v) b4 ([((⟨#[122]⟩ : ByteArray), (sl g125 1 cap126)), ((⟨#[121]⟩ : ByteArray), vn)] : List (ByteArray × Value)) :: L) := (St.selD 6 [2, 0, 1, 3, 4, 5] rfl rfl (by decide) st163)
 refine WC.drawW (L := (Blk b161 61 [(.int .i8 (1)), (vs 122), av150, (.int .i8 ((lOf 1 ⟨#[122]⟩).rel)), (.int .i8 ((lOf 1 ⟨#[122]⟩).left.op)), (.string ((lOf 1 ⟨#[122]⟩).left.term.var)), (.int .i8 ((lOf 1 ⟨#[122]⟩).left.term.val.kind)), (.int .i64 ((lOf 1 ⟨#[122]⟩).left.term.val.num)), (.string ((lOf 1 ⟨#[122]⟩).left.term.val.text)), lk151, (.int .i8 ((lOf 1 ⟨#[122]⟩).right.op)), (.string ((lOf 1 ⟨#[122]⟩).right.term.var)), (.int .i8 ((lOf 1 ⟨#[122]⟩).right.term.val.kind)), (.int .i64 ((lOf 1 ⟨#[122]⟩).right.term.val.num)), (.string ((lOf 1 ⟨#[122]⟩).right.term.val.text)), rk152] :: Blk b156 61 [(.int .i8 (1)), (vs 122), av150, (.int .i8 ((lOf 1 ⟨#[122]⟩).rel)), (.int .i8 ((lOf 1 ⟨#[122]⟩).left.op)), (.string ((lOf 1 ⟨#[122]⟩).left.term.var)), (.int .i8 ((lOf 1 ⟨#[122]⟩).left.term.val.kind)), (.int .i64 ((lOf 1 ⟨#[122]⟩).left.term.val.num)), (.string ((lOf 1 ⟨#[122]⟩).left.term.val.text)), lk151, (.int .i8 ((lOf 1 ⟨#[122]⟩).right.op)), (.string ((lOf 1 ⟨#[122]⟩).right.term.var)), (.int .i8 ((lOf 1 ⟨#[122]⟩).right.term.val.kind)), (.int .i64 ((lOf 1 ⟨#[122]⟩).right.term.val.num)), (.string ((lOf 1 ⟨#[122]⟩).right.term.val.text)), rk152] :: Blk b28 31 [(vs 122), hv24, bv25] :: Blk b7 99 [(.map (some b4))] :: Mp Value.string (fun v : Value => v) b4 ([((⟨#[122]⟩ : ByteArray), (sl g125 1 cap126)), ((⟨#[121]⟩ : ByteArray), vn)] : List (ByteArray × Value)) :: L)) 12 (fun jj vals vv => match jj with | 0 => vv = (.map (some b4)) | 1 => vv = (pt b28 0) | 2 => vv = (vs 122) | 3 => vv = (.map (some b4)) | 4 => vv = (pt b28 0) | 5 => vv = (vs 122) | 6 => vv = (sl g125 1 cap126) | 7 => vv = (pt b161 1) | 8 => vv = (pt b161 1) | 9 => vv = (vs 122) | 10 => vv = (sl (bk vv) 1 1) | 11 => vv.oneCell' = true ∧ vv.cells = #[vv] | _ => True) (fun jj vals vv => match jj with | 11 => [Row 9 1 vv 2 [(vs 121), (vs 122)]] | 10 => [Blk (bk vv) 9 [(vs 122)]] | _ => []) (fun jj => match jj with | 11 => [Blk g125 9 (cx [(vs 121)] ex127)] | _ => []) (fun jj => match jj with | 11 => some 10 | _ => none) st164 fmix (by kernel_rfl) (by kernel_rfl) ((obS (obS (obS (obS (obS (obS (obS (obS (obS (obS (obS (obS ob0 (fun aa bb vv h hf => hf)) (fun aa bb vv h hf => hf)) (fun aa bb vv h hf => hf)) (fun aa bb vv h hf => hf)) (fun aa bb vv h hf => hf)) (fun aa bb vv h hf => hf)) (fun aa bb vv h hf => hf)) (fun aa bb vv h hf => hf)) (fun aa bb vv h hf => hf)) (fun aa bb vv h hf => hf)) (fun aa bb vv h hf => hf)) (fun aa bb vv h hf => hf))) ((obS (obS (obS (obS (obS (obS (obS (obS (obS (obS (obS (obS ob0 (fun aa bb vv h => rfl)) (fun aa bb vv h => rfl)) (fun aa bb vv h => rfl)) (fun aa bb vv h => rfl)) (fun aa bb vv h => rfl)) (fun aa bb vv h => rfl)) (fun aa bb vv h => rfl)) (fun aa bb vv h => rfl)) (fun aa bb vv h => rfl)) (fun aa bb vv h => rfl)) (fun aa bb vv h => rfl)) (fun aa bb vv h => rfl))) ((obS (obS (obS (obS (obS (obS (obS (obS (obS (obS (obS (obS ob0 ?_) ?_) ?_) ?_) ?_) ?_) ?_) ?_) ?_) ?_) ?_) ?_)) ?_
 ·intro vals ρ w166 X hd h0 st165
  have e167 : ρ 1 = (pt b7 0) := (h0 1 rfl).trans rfl
  refine W1 (OpT.loadS ⟨b7, 0, none⟩ (.map (some b4)) ta99 e167 (st165.cellB (i := 3) rfl rfl) ?_)
  refine WL.nil ?_
  exact oneQ.mk ⟨rfl, st165⟩
 ·intro vals ρ w169 X hd h0 st168
  have e170 : ρ 2 = (pt b28 0) := (h0 2 rfl).trans rfl
  refine W1 (OpT.field 0 ⟨b28, 0, none⟩ ⟨b28, 0, none⟩ tf31_0 e170 rfl ?_)
  refine WL.nil ?_
  exact oneQ.mk ⟨rfl, st168⟩
 ·intro vals ρ w172 X hd h0 st171
  have e173 : ρ 7 = (pt b28 0) := ((hd 1 rfl).2 7 rfl).trans (hd 1 rfl).1
  refine W1 (OpT.loadS ⟨b28, 0, none⟩ (vs 122) ta9 e173 (st171.cellB (i := 2) rfl rfl) ?_)
  refine WL.nil ?_
  exact oneQ.mk ⟨rfl, st171⟩
 ·intro vals ρ w175 X hd h0 st174
  have e176 : ρ 1 = (pt b7 0) := (h0 1 rfl).trans rfl
  refine W1 (OpT.loadS ⟨b7, 0, none⟩ (.map (some b4)) ta99 e176 (st174.cellB (i := 3) rfl rfl) ?_)
  refine WL.nil ?_
  exact oneQ.mk ⟨rfl, st174⟩
 ·intro vals ρ w178 X hd h0 st177
  have e179 : ρ 2 = (pt b28 0) := (h0 2 rfl).trans rfl
  refine W1 (OpT.field 0 ⟨b28, 0, none⟩ ⟨b28, 0, none⟩ tf31_0 e179 rfl ?_)
  refine WL.nil ?_
  exact oneQ.mk ⟨rfl, st177⟩
 ·intro vals ρ w181 X hd h0 st180
  have e182 : ρ 10 = (pt b28 0) := ((hd 4 rfl).2 10 rfl).trans (hd 4 rfl).1
  refine W1 (OpT.loadS ⟨b28, 0, none⟩ (vs 122) ta9 e182 (st180.cellB (i := 2) rfl rfl) ?_)
  refine WL.nil ?_
  exact oneQ.mk ⟨rfl, st180⟩
 ·intro vals ρ w184 X hd h0 st183
  have e185 : ρ 9 = (.map (some b4)) := ((hd 3 rfl).2 9 rfl).trans (hd 3 rfl).1
  have e186 : ρ 11 = (vs 122) := ((hd 5 rfl).2 11 rfl).trans (hd 5 rfl).1
  refine W1 (OpT.litV (v := ((mget ([((⟨#[122]⟩ : ByteArray), (sl g125 1 cap126)), ((⟨#[121]⟩ : ByteArray), vn)] : List (ByteArray × Value)) (⟨#[122]⟩ : ByteArray)).getD vn)) (v' := (sl g125 1 cap126)) (by simp [mget_cons, mget_nil]) (fun hk => OpT.lookupV st183 4 rfl ko9 tu99 tz68 ((⟨#[122]⟩ : ByteArray)) e185 e186 hk) ?_)
  refine WL.nil ?_
  exact oneQ.mk ⟨rfl, st183⟩
 ·intro vals ρ w188 X hd h0 st187
  have e189 : ρ 3 = (pt b161 0) := (h0 3 rfl).trans rfl
  refine W1 (OpT.field 1 ⟨b161, 0, none⟩ ⟨b161, 1, none⟩ tf61_1 e189 rfl ?_)
  refine WL.nil ?_
  exact oneQ.mk ⟨rfl, st187⟩
 ·intro vals ρ w191 X hd h0 st190
  have e192 : ρ 13 = (pt b161 1) := ((hd 7 rfl).2 13 rfl).trans (hd 7 rfl).1
  refine W1 (OpT.field 0 ⟨b161, 1, none⟩ ⟨b161, 1, none⟩ tf54_0 e192 rfl ?_)
  refine WL.nil ?_
  exact oneQ.mk ⟨rfl, st190⟩
 ·intro vals ρ w194 X hd h0 st193
  have e195 : ρ 14 = (pt b161 1) := ((hd 8 rfl).2 14 rfl).trans (hd 8 rfl).1
  refine W1 (OpT.loadS ⟨b161, 1, none⟩ (vs 122) ta9 e195 (st193.cellB (i := 0) rfl rfl) ?_)
  refine WL.nil ?_
  exact oneQ.mk ⟨rfl, st193⟩
 ·intro vals ρ w197 X hd h0 st196
  have e198 : ρ 15 = (vs 122) := ((hd 9 rfl).2 15 rfl).trans (hd 9 rfl).1
  refine W1 (OpT.buildSlice st196 [(0, (vs 122))] [(vs 122)] tu68 ts9 tz9 (mp1 e198) (by kernel_rfl) (by decide) (fun b199 w200 st201 => ?_))
  refine WL.nil ?_
  exact oneQ.mk ⟨rfl, st201⟩
 ·intro vals ρ w203 X hd h0 st202
  have e204 : ρ 12 = (sl g125 1 cap126) := ((hd 6 rfl).2 12 rfl).trans (hd 6 rfl).1
  have e205 : ρ 16 = (sl (bk (vals 10)) 1 1) := ((hd 10 rfl).2 16 rfl).trans (hd 10 rfl).1
  have st206 := St.shutRow (sz := 1) (n := 1) (cap := cap126) (cs := [(vs 121)]) (st202 : St Z w0 w203 (Blk g125 9 (cx [(vs 121)] ex127) :: Blk (bk (vals 10)) 9 [(vs 122)] :: Blk b161 61 [(.int .i8 (1)), (vs 122), av150, (.int .i8 ((lOf 1 ⟨#[122]⟩).rel)), (.int .i8 ((lOf 1 ⟨#[122]⟩).left.op)), (.string ((lOf 1 ⟨#[122]⟩).left.term.var)), (.int .i8 ((lOf 1 ⟨#[122]⟩).left.term.val.kind)), (.int .i64 ((lOf 1 ⟨#[122]⟩).left.term.val.num)), (.string ((lOf 1 ⟨#[122]⟩).left.term.val.text)), lk151, (.int .i8 ((lOf 1 ⟨#[122]⟩).right.op)), (.string ((lOf 1 ⟨#[122]⟩).right.term.var)), (.int .i8 ((lOf 1 ⟨#[122]⟩).right.term.val.kind)), (.int .i64 ((lOf 1 ⟨#[122]⟩).right.term.val.num)), (.string ((lOf 1 ⟨#[122]⟩).right.term.val.text)), rk152] :: Blk b156 61 [(.int .i8 (1)), (vs 122), av150, (.int .i8 ((lOf 1 ⟨#[122]⟩).rel)), (.int .i8 ((lOf 1 ⟨#[122]⟩).left.op)), (.string ((lOf 1 ⟨#[122]⟩).left.term.var)), (.int .i8 ((lOf 1 ⟨#[122]⟩).left.term.val.kind)), (.int .i64 ((lOf 1 ⟨#[122]⟩).left.term.val.num)), (.string ((lOf 1 ⟨#[122]⟩).left.term.val.text)), lk151, (.int .i8 ((lOf 1 ⟨#[122]⟩).right.op)), (.string ((lOf 1 ⟨#[122]⟩).right.term.var)), (.int .i8 ((lOf 1 ⟨#[122]⟩).right.term.val.kind)), (.int .i64 ((lOf 1 ⟨#[122]⟩).right.term.val.num)), (.string ((lOf 1 ⟨#[122]⟩).right.term.val.text)), rk152] :: Blk b28 31 [(vs 122), hv24, bv25] :: Blk b7 99 [(.map (some b4))] :: Mp Value.string (fun v : Value => v) b4 ([((⟨#[122]⟩ : ByteArray), (sl g125 1 cap126)), ((⟨#[121]⟩ : ByteArray), vn)] : List (ByteArray × Value)) :: (L ++ X))) (by simp; omega) (by omega) hm130 rfl
  have st207 : St Z w0 w203 (Blk (bk (vals 10)) 9 [(vs 122)] :: Row 9 1 (sl g125 1 cap126) 1 [(vs 121)] :: Blk b161 61 [(.int .i8 (1)), (vs 122), av150, (.int .i8 ((lOf 1 ⟨#[122]⟩).rel)), (.int .i8 ((lOf 1 ⟨#[122]⟩).left.op)), (.string ((lOf 1 ⟨#[122]⟩).left.term.var)), (.int .i8 ((lOf 1 ⟨#[122]⟩).left.term.val.kind)), (.int .i64 ((lOf 1 ⟨#[122]⟩).left.term.val.num)), (.string ((lOf 1 ⟨#[122]⟩).left.term.val.text)), lk151, (.int .i8 ((lOf 1 ⟨#[122]⟩).right.op)), (.string ((lOf 1 ⟨#[122]⟩).right.term.var)), (.int .i8 ((lOf 1 ⟨#[122]⟩).right.term.val.kind)), (.int .i64 ((lOf 1 ⟨#[122]⟩).right.term.val.num)), (.string ((lOf 1 ⟨#[122]⟩).right.term.val.text)), rk152] :: Blk b156 61 [(.int .i8 (1)), (vs 122), av150, (.int .i8 ((lOf 1 ⟨#[122]⟩).rel)), (.int .i8 ((lOf 1 ⟨#[122]⟩).left.op)), (.string ((lOf 1 ⟨#[122]⟩).left.term.var)), (.int .i8 ((lOf 1 ⟨#[122]⟩).left.term.val.kind)), (.int .i64 ((lOf 1 ⟨#[122]⟩).left.term.val.num)), (.string ((lOf 1 ⟨#[122]⟩).left.term.val.text)), lk151, (.int .i8 ((lOf 1 ⟨#[122]⟩).right.op)), (.string ((lOf 1 ⟨#[122]⟩).right.term.var)), (.int .i8 ((lOf 1 ⟨#[122]⟩).right.term.val.kind)), (.int .i64 ((lOf 1 ⟨#[122]⟩).right.term.val.num)), (.string ((lOf 1 ⟨#[122]⟩).right.term.val.text)), rk152] :: Blk b28 31 [(vs 122), hv24, bv25] :: Blk b7 99 [(.map (some b4))] :: Mp Value.string (fun v : Value => v) b4 ([((⟨#[122]⟩ : ByteArray), (sl g125 1 cap126)), ((⟨#[121]⟩ : ByteArray), vn)] : List (ByteArray × Value)) :: (L ++ X)) := St.selT [Row 9 1 (sl g125 1 cap126) 1 [(vs 121)], Blk (bk (vals 10)) 9 [(vs 122)], Blk b161 61 [(.int .i8 (1)), (vs 122), av150, (.int .i8 ((lOf 1 ⟨#[122]⟩).rel)), (.int .i8 ((lOf 1 ⟨#[122]⟩).left.op)), (.string ((lOf 1 ⟨#[122]⟩).left.term.var)), (.int .i8 ((lOf 1 ⟨#[122]⟩).left.term.val.kind)), (.int .i64 ((lOf 1 ⟨#[122]⟩).left.term.val.num)), (.string ((lOf 1 ⟨#[122]⟩).left.term.val.text)), lk151, (.int .i8 ((lOf 1 ⟨#[122]⟩).right.op)), (.string ((lOf 1 ⟨#[122]⟩).right.term.var)), (.int .i8 ((lOf 1 ⟨#[122]⟩).right.term.val.kind)), (.int .i64 ((lOf 1 ⟨#[122]⟩).right.term.val.num)), (.string ((lOf 1 ⟨#[122]⟩).right.term.val.text)), rk152], Blk b156 61 [(.int .i8 (1)), (vs 122), av150, (.int .i8 ((lOf 1 ⟨#[122]⟩).rel)), (.int .i8 ((lOf 1 ⟨#[122]⟩).left.op)), (.string ((lOf 1 ⟨#[122]⟩).left.term.var)), (.int .i8 ((lOf 1 ⟨#[122]⟩).left.term.val.kind)), (.int .i64 ((lOf 1 ⟨#[122]⟩).left.term.val.num)), (.string ((lOf 1 ⟨#[122]⟩).left.term.val.text)), lk151, (.int .i8 ((lOf 1 ⟨#[122]⟩).right.op)), (.string ((lOf 1 ⟨#[122]⟩).right.term.var)), (.int .i8 ((lOf 1 ⟨#[122]⟩).right.term.val.kind)), (.int .i64 ((lOf 1 ⟨#[122]⟩).right.term.val.num)), (.string ((lOf 1 ⟨#[122]⟩).right.term.val.text)), rk152], Blk b28 31 [(vs 122), hv24, bv25], Blk b7 99 [(.map (some b4))], Mp Value.string (fun v : Value => v) b4 ([((⟨#[122]⟩ : ByteArray), (sl g125 1 cap126)), ((⟨#[121]⟩ : ByteArray), vn)] : List (ByteArray × Value))] [1, 0, 2, 3, 4, 5, 6] rfl (by decide) st206
  refine W1 (OpT.appendK st207 1 tu68 ts9 tz9 rfl tb9 (by decide) e204 e205 rfl rfl (by decide) (by decide) (fun v208 w209 st210 hn211 => ?_))
  have o212 := st210.rowOne (i := 1) rfl
  have c213 := st210.rowCel (i := 1) rfl
  refine WL.nil ?_
  exact oneQ.mk ⟨⟨o212, c213⟩, (St.selD 7 [1, 0, 2, 3, 4, 5, 6] rfl rfl (by decide) st210)⟩
 intro vals ρ216 w215 hv h0 st214
 replace st214 : St Z w0 w215 (Blk (bk (vals 10)) 9 [(vs 122)] :: Row 9 1 (vals 11) 2 [(vs 121), (vs 122)] :: Blk b161 61 [(.int .i8 (1)), (vs 122), av150, (.int .i8 ((lOf 1 ⟨#[122]⟩).rel)), (.int .i8 ((lOf 1 ⟨#[122]⟩).left.op)), (.string ((lOf 1 ⟨#[122]⟩).left.term.var)), (.int .i8 ((lOf 1 ⟨#[122]⟩).left.term.val.kind)), (.int .i64 ((lOf 1 ⟨#[122]⟩).left.term.val.num)), (.string ((lOf 1 ⟨#[122]⟩).left.term.val.text)), lk151, (.int .i8 ((lOf 1 ⟨#[122]⟩).right.op)), (.string ((lOf 1 ⟨#[122]⟩).right.term.var)), (.int .i8 ((lOf 1 ⟨#[122]⟩).right.term.val.kind)), (.int .i64 ((lOf 1 ⟨#[122]⟩).right.term.val.num)), (.string ((lOf 1 ⟨#[122]⟩).right.term.val.text)), rk152] :: Blk b156 61 [(.int .i8 (1)), (vs 122), av150, (.int .i8 ((lOf 1 ⟨#[122]⟩).rel)), (.int .i8 ((lOf 1 ⟨#[122]⟩).left.op)), (.string ((lOf 1 ⟨#[122]⟩).left.term.var)), (.int .i8 ((lOf 1 ⟨#[122]⟩).left.term.val.kind)), (.int .i64 ((lOf 1 ⟨#[122]⟩).left.term.val.num)), (.string ((lOf 1 ⟨#[122]⟩).left.term.val.text)), lk151, (.int .i8 ((lOf 1 ⟨#[122]⟩).right.op)), (.string ((lOf 1 ⟨#[122]⟩).right.term.var)), (.int .i8 ((lOf 1 ⟨#[122]⟩).right.term.val.kind)), (.int .i64 ((lOf 1 ⟨#[122]⟩).right.term.val.num)), (.string ((lOf 1 ⟨#[122]⟩).right.term.val.text)), rk152] :: Blk b28 31 [(vs 122), hv24, bv25] :: Blk b7 99 [(.map (some b4))] :: Mp Value.string (fun v : Value => v) b4 ([((⟨#[122]⟩ : ByteArray), (sl g125 1 cap126)), ((⟨#[121]⟩ : ByteArray), vn)] : List (ByteArray × Value)) :: L) := st214
 have e217 : ρ216 1 = (pt b7 0) := (h0 1 rfl).trans rfl
 have e218 : ρ216 3 = (pt b161 0) := (h0 3 rfl).trans rfl
 have e219 : ρ216 6 = (.map (some b4)) := ((hv 0 rfl).2 6 rfl).trans (hv 0 rfl).1
 have e220 : ρ216 8 = (vs 122) := ((hv 2 rfl).2 8 rfl).trans (hv 2 rfl).1
 have o221 : (vals 11).oneCell' = true := (hv 11 rfl).1.1
 have c222 : (vals 11).cells = #[vals 11] := (hv 11 rfl).1.2
 have e223 : ρ216 17 = (vals 11) := ((hv 11 rfl).2 17 rfl)
 have o224 : (vals 11).oneCell' = true := (hv 11 rfl).1.1
 have c225 : (vals 11).cells = #[vals 11] := (hv 11 rfl).1.2
 clear hv h0
 generalize bk (vals 10) = b226 at *
 generalize vals 11 = v227 at *
 obtain ⟨g228, cap229, ex230, rfl, hE231, hc232, hm233, st234⟩ := St.openRow (n := 2) (cs := [(vs 121), (vs 122)]) (by decide) ((St.selD 7 [1, 0, 2, 3, 4, 5, 6] rfl rfl (by decide) st214) : St Z w0 w215 (Row 9 1 v227 2 [(vs 121), (vs 122)] :: Blk b226 9 [(vs 122)] :: Blk b161 61 [(.int .i8 (1)), (vs 122), av150, (.int .i8 ((lOf 1 ⟨#[122]⟩).rel)), (.int .i8 ((lOf 1 ⟨#[122]⟩).left.op)), (.string ((lOf 1 ⟨#[122]⟩).left.term.var)), (.int .i8 ((lOf 1 ⟨#[122]⟩).left.term.val.kind)), (.int .i64 ((lOf 1 ⟨#[122]⟩).left.term.val.num)), (.string ((lOf 1 ⟨#[122]⟩).left.term.val.text)), lk151, (.int .i8 ((lOf 1 ⟨#[122]⟩).right.op)), (.string ((lOf 1 ⟨#[122]⟩).right.term.var)), (.int .i8 ((lOf 1 ⟨#[122]⟩).right.term.val.kind)), (.int .i64 ((lOf 1 ⟨#[122]⟩).right.term.val.num)), (.string ((lOf 1 ⟨#[122]⟩).right.term.val.text)), rk152] :: Blk b156 61 [(.int .i8 (1)), (vs 122), av150, (.int .i8 ((lOf 1 ⟨#[122]⟩).rel)), (.int .i8 ((lOf 1 ⟨#[122]⟩).left.op)), (.string ((lOf 1 ⟨#[122]⟩).left.term.var)), (.int .i8 ((lOf 1 ⟨#[122]⟩).left.term.val.kind)), (.int .i64 ((lOf 1 ⟨#[122]⟩).left.term.val.num)), (.string ((lOf 1 ⟨#[122]⟩).left.term.val.text)), lk151, (.int .i8 ((lOf 1 ⟨#[122]⟩).right.op)), (.string ((lOf 1 ⟨#[122]⟩).right.term.var)), (.int .i8 ((lOf 1 ⟨#[122]⟩).right.term.val.kind)), (.int .i64 ((lOf 1 ⟨#[122]⟩).right.term.val.num)), (.string ((lOf 1 ⟨#[122]⟩).right.term.val.text)), rk152] :: Blk b28 31 [(vs 122), hv24, bv25] :: Blk b7 99 [(.map (some b4))] :: Mp Value.string (fun v : Value => v) b4 ([((⟨#[122]⟩ : ByteArray), (sl g125 1 cap126)), ((⟨#[121]⟩ : ByteArray), vn)] : List (ByteArray × Value)) :: L))
 replace st234 : St Z w0 w215 (Blk g228 9 (cx [(vs 121), (vs 122)] ex230) :: Blk b226 9 [(vs 122)] :: Blk b161 61 [(.int .i8 (1)), (vs 122), av150, (.int .i8 ((lOf 1 ⟨#[122]⟩).rel)), (.int .i8 ((lOf 1 ⟨#[122]⟩).left.op)), (.string ((lOf 1 ⟨#[122]⟩).left.term.var)), (.int .i8 ((lOf 1 ⟨#[122]⟩).left.term.val.kind)), (.int .i64 ((lOf 1 ⟨#[122]⟩).left.term.val.num)), (.string ((lOf 1 ⟨#[122]⟩).left.term.val.text)), lk151, (.int .i8 ((lOf 1 ⟨#[122]⟩).right.op)), (.string ((lOf 1 ⟨#[122]⟩).right.term.var)), (.int .i8 ((lOf 1 ⟨#[122]⟩).right.term.val.kind)), (.int .i64 ((lOf 1 ⟨#[122]⟩).right.term.val.num)), (.string ((lOf 1 ⟨#[122]⟩).right.term.val.text)), rk152] :: Blk b156 61 [(.int .i8 (1)), (vs 122), av150, (.int .i8 ((lOf 1 ⟨#[122]⟩).rel)), (.int .i8 ((lOf 1 ⟨#[122]⟩).left.op)), (.string ((lOf 1 ⟨#[122]⟩).left.term.var)), (.int .i8 ((lOf 1 ⟨#[122]⟩).left.term.val.kind)), (.int .i64 ((lOf 1 ⟨#[122]⟩).left.term.val.num)), (.string ((lOf 1 ⟨#[122]⟩).left.term.val.text)), lk151, (.int .i8 ((lOf 1 ⟨#[122]⟩).right.op)), (.string ((lOf 1 ⟨#[122]⟩).right.term.var)), (.int .i8 ((lOf 1 ⟨#[122]⟩).right.term.val.kind)), (.int .i64 ((lOf 1 ⟨#[122]⟩).right.term.val.num)), (.string ((lOf 1 ⟨#[122]⟩).right.term.val.text)), rk152] :: Blk b28 31 [(vs 122), hv24, bv25] :: Blk b7 99 [(.map (some b4))] :: Mp Value.string (fun v : Value => v) b4 ([((⟨#[122]⟩ : ByteArray), (sl g125 1 cap126)), ((⟨#[121]⟩ : ByteArray), vn)] : List (ByteArray × Value)) :: L) := st234
 have e237 : mset ([((⟨#[122]⟩ : ByteArray), (sl g125 1 cap126)), ((⟨#[121]⟩ : ByteArray), vn)] : List (ByteArray × Value)) (⟨#[122]⟩ : ByteArray) (sl g228 2 cap229) = ([((⟨#[122]⟩ : ByteArray), (sl g228 2 cap229)), ((⟨#[121]⟩ : ByteArray), vn)] : List (ByteArray × Value)) := by simp [mset_cons, mset_nil]
 refine WL.stepN (OpT.mapSet st234 6 rfl ko9 tu99 ((⟨#[122]⟩ : ByteArray)) ((sl g228 2 cap229)) e219 e220 e223 (fun w235 st236 => ?_))
 rw [e237] at st236
 refine Wns ?_
 refine W1 (OpT.loadS ⟨b7, 0, none⟩ (.map (some b4)) ta99 e217 (st236.cellB (i := 5) rfl rfl) ?_)
 refine W1 (OpT.field 1 ⟨b161, 0, none⟩ ⟨b161, 1, none⟩ tf61_1 e218 rfl ?_)
 refine W1 (OpT.field 0 ⟨b161, 1, none⟩ ⟨b161, 1, none⟩ tf54_0 rfl rfl ?_)
 refine W1 (OpT.loadS ⟨b161, 1, none⟩ (vs 122) ta9 rfl (st236.cellB (i := 2) rfl rfl) ?_)
 refine W1 (OpT.litV (v := (.tuple #[((mget ([((⟨#[122]⟩ : ByteArray), (sl g228 2 cap229)), ((⟨#[121]⟩ : ByteArray), vn)] : List (ByteArray × Value)) (⟨#[122]⟩ : ByteArray)).getD vn), (.bool ((mget ([((⟨#[122]⟩ : ByteArray), (sl g228 2 cap229)), ((⟨#[121]⟩ : ByteArray), vn)] : List (ByteArray × Value)) (⟨#[122]⟩ : ByteArray)).isSome))])) (v' := (.tuple #[(sl g228 2 cap229), (.bool true)])) (by simp [mget_cons, mget_nil]) (fun hk => OpT.lookupOkV st236 6 rfl ko9 tu99 tz68 ((⟨#[122]⟩ : ByteArray)) rfl rfl hk) ?_)
 refine W1 (OpT.move (.tuple #[(sl g228 2 cap229), (.bool true)]) rfl ?_)
 refine W1 (OpT.extract [(sl g228 2 cap229), (.bool true)] (sl g228 2 cap229) rfl rfl ?_)
 refine W1 (OpT.extract [(sl g228 2 cap229), (.bool true)] (.bool true) rfl rfl ?_)
 refine W1 (OpT.assign (sl g228 2 cap229) rfl ?_)
 refine W1 (OpT.assign (.bool true) rfl ?_)
 refine Wns ?_
 refine W1 (OpT.move (.bool true) rfl ?_)
 refine W1 (OpT.not true rfl ?_)
 refine Wnt ?_
 refine WC.condF rfl ?_
 refine WC.skip ?_
 refine retQ.none (.inl rfl) ?_
 refine ⟨_, rfl, ?_⟩
 refine WL.nil ?_
 refine blkQ_n ?_
 refine thenQ_n ?_
 refine WC.region ?_
 refine W1 (OpT.iadd .i64 (1) (1) (2) hI144.2.2.2 rfl (by decide) ?_)
 refine W1 (OpT.move (ii 2) rfl ?_)
 refine WL.nil ?_
 refine unrQ_n ?_
 refine UL.cut (fun r => r 1 = (.func (.func 48) #[] #[(pt b7 0), (pt b28 0)]) ∧ r 6 = bv25 ∧ r 7 = (ii 2) ∧ r 8 = (ii 2)) ⟨hI144.1, hI144.2.1, hI144.2.2.1, rfl⟩ ?_
 have st243 : St Z w0 w235 (Blk g228 9 (cx [(vs 121), (vs 122)] ex230) :: Blk b28 31 [(vs 122), hv24, bv25] :: Blk b7 99 [(.map (some b4))] :: Mp Value.string (fun v : Value => v) b4 ([((⟨#[122]⟩ : ByteArray), (sl g228 2 cap229)), ((⟨#[121]⟩ : ByteArray), vn)] : List (ByteArray × Value)) :: L) := (St.selD 7 [0, 4, 5, 6] rfl rfl (by decide) st236)
 intro ρ238 hI244
 refine UL.go ?_
 refine Wsr ?_
 refine W1 (OpT.lit (b := (decide ((2 : Int) < (2 : Int)))) (c := false) (by decide) (fun hk => OpT.ilt .i64 (2) (2) hI244.2.2.2 hI244.2.2.1 hk) ?_)
 refine Wnt ?_
 refine WC.seq ?_
 refine WC.condF rfl ?_
 refine WC.exit ?_
 refine thenQ_x ?_
 refine unrQ_x ?_
 refine blkQ_hit ?_
 refine retQ.none (.inl rfl) ?_
 refine ⟨_, rfl, ?_⟩
 refine WL.nil ?_
 refine blkQ_n ?_
 refine thenQ_n ?_
 refine WC.region ?_
 refine W1 (OpT.iadd .i64 (0) (1) (1) hI18.2.2.2 rfl (by decide) ?_)
 refine W1 (OpT.move (ii 1) rfl ?_)
 refine WL.nil ?_
 refine unrQ_n ?_
 refine UL.cut (fun r => r 3 = (pt b7 0) ∧ r 10 = (sl rb 2 2) ∧ r 11 = (ii 2) ∧ r 12 = (ii 1)) ⟨hI18.1, hI18.2.1, hI18.2.2.1, rfl⟩ ?_
 have st250 : St Z w0 w235 (Blk g228 9 (cx [(vs 121), (vs 122)] ex230) :: Blk b7 99 [(.map (some b4))] :: Mp Value.string (fun v : Value => v) b4 ([((⟨#[122]⟩ : ByteArray), (sl g228 2 cap229)), ((⟨#[121]⟩ : ByteArray), vn)] : List (ByteArray × Value)) :: L) := (St.selD 4 [0, 2, 3] rfl rfl (by decide) st243)
 intro ρ245 hI251
 refine UL.go ?_
 refine Wsr ?_
 refine W1 (OpT.lit (b := (decide ((1 : Int) < (2 : Int)))) (c := true) (by decide) (fun hk => OpT.ilt .i64 (1) (2) hI251.2.2.2 hI251.2.2.1 hk) ?_)
 refine Wnt ?_
 refine WC.seq ?_
 refine WC.condT rfl ?_
 refine WC.skip ?_
 refine thenQ_n ?_
 refine WC.seq ?_
 refine WC.block ?_
 refine Wsr ?_
 refine W1 (OpT.idxX tu22 ts31 hr hI251.2.1 .i64 (1) hI251.2.2.2 rfl (fun ad253 cs254 hr255 hR256 => ?_))
 have hR256c := hR256
 obtain ⟨hv257, bv258, rfl, hh259, hb260⟩ := hR256
 refine W1 (OpT.loadA ad253 3 [(vs 121), hv257, bv258] ta31 ts31 rfl ((hr255.at st250).part 0 3) rfl ?_)
 refine W1 (OpT.alloc st250 (.agg #[ve, vn, vn]) [ve, vn, vn] tz31 rfl (fun b261 w262 st263 => ?_))
 refine WL.stepN (OpT.storeA st263 0 3 [(vs 121), hv257, bv258] rfl ts31 rfl rfl (aC rfl (aC (Rl.sl_one hh259) (aC (Rl.sl_one hb260) aN))) rfl rfl (fun w264 st265 => ?_))
 refine Wnt ?_
 refine WC.seq ?_
 refine Wsr ?_
 refine W1 (OpT.loadS ⟨b7, 0, none⟩ (.map (some b4)) ta99 hI251.1 (st265.cellB (i := 2) rfl rfl) ?_)
 refine W1 (OpT.field 0 ⟨b261, 0, none⟩ ⟨b261, 0, none⟩ tf31_0 rfl rfl ?_)
 refine W1 (OpT.loadS ⟨b261, 0, none⟩ (vs 121) ta9 rfl (st265.cellB (i := 0) rfl rfl) ?_)
 refine W1 (OpT.litV (v := (.tuple #[((mget ([((⟨#[122]⟩ : ByteArray), (sl g228 2 cap229)), ((⟨#[121]⟩ : ByteArray), vn)] : List (ByteArray × Value)) (⟨#[121]⟩ : ByteArray)).getD vn), (.bool ((mget ([((⟨#[122]⟩ : ByteArray), (sl g228 2 cap229)), ((⟨#[121]⟩ : ByteArray), vn)] : List (ByteArray × Value)) (⟨#[121]⟩ : ByteArray)).isSome))])) (v' := (.tuple #[vn, (.bool true)])) (by simp [mget_cons, mget_nil]) (fun hk => OpT.lookupOkV st265 3 rfl ko9 tu99 tz68 ((⟨#[121]⟩ : ByteArray)) rfl rfl hk) ?_)
 refine W1 (OpT.move (.tuple #[vn, (.bool true)]) rfl ?_)
 refine W1 (OpT.extract [vn, (.bool true)] vn rfl rfl ?_)
 refine W1 (OpT.extract [vn, (.bool true)] (.bool true) rfl rfl ?_)
 refine W1 (OpT.assign vn rfl ?_)
 refine W1 (OpT.assign (.bool true) rfl ?_)
 refine Wns ?_
 refine W1 (OpT.move (.bool true) rfl ?_)
 refine W1 (OpT.not true rfl ?_)
 refine Wnt ?_
 refine WC.condF rfl ?_
 refine WC.skip ?_
 refine thenQ_n ?_
 refine WC.region ?_
 refine W1 (OpT.field 2 ⟨b261, 0, none⟩ ⟨b261, 2, none⟩ tf31_2 rfl rfl ?_)
 refine W1 (OpT.loadS ⟨b261, 2, none⟩ bv258 ta29 rfl (st265.cellB (i := 0) rfl rfl) ?_)
 refine W1 (OpT.makeFunc [] [(pt b7 0), (pt b261 0)] mk0 (mk2 hI251.1 rfl) ?_)
 refine W1 (OpT.callC cal12 [] [] [bv258, (.func (.func 48) #[] #[(pt b7 0), (pt b261 0)])] rfl (ca2 rfl rfl) ?_)
 refine calls_of_WC (m := 24) (rs := []) Try.func12 rfl rfl rfl rfl ?_
 refine Wsr ?_
 refine W1 (OpT.move bv258 rfl ?_)
 refine W1 (OpT.litV (v := (ni 1)) (v' := (ii 1)) rfl (fun hk => OpT.lenR rfl tu29 hb260 rfl hk) ?_)
 refine W1 (OpT.move (ii 0) rfl ?_)
 refine Wnt ?_
 refine WC.block ?_
 refine WC.unroll 12 ?_
 refine UL.cut (fun r => r 1 = (.func (.func 48) #[] #[(pt b7 0), (pt b261 0)]) ∧ r 6 = bv258 ∧ r 7 = (ii 1) ∧ r 8 = (ii 0)) ⟨rfl, rfl, rfl, rfl⟩ ?_
 intro ρ266 hI271
 refine UL.go ?_
 refine Wsr ?_
 refine W1 (OpT.lit (b := (decide ((0 : Int) < (1 : Int)))) (c := true) (by decide) (fun hk => OpT.ilt .i64 (0) (1) hI271.2.2.2 hI271.2.2.1 hk) ?_)
 refine Wnt ?_
 refine WC.seq ?_
 refine WC.condT rfl ?_
 refine WC.skip ?_
 refine thenQ_n ?_
 refine WC.seq ?_
 refine WC.block ?_
 refine Wsr ?_
 refine W1 (OpT.idxX tu29 ts61 hb260 hI271.2.1 .i64 (0) hI271.2.2.2 rfl (fun ad273 cs274 hr275 hR276 => ?_))
 have hR276c := hR276
 obtain ⟨av277, lk278, rk279, rfl, ha280, hl281, hr282⟩ := hR276
 refine W1 (OpT.loadA ad273 16 [(.int .i8 (1)), (vs 120), av277, (.int .i8 ((lOf 1 ⟨#[120]⟩).rel)), (.int .i8 ((lOf 1 ⟨#[120]⟩).left.op)), (.string ((lOf 1 ⟨#[120]⟩).left.term.var)), (.int .i8 ((lOf 1 ⟨#[120]⟩).left.term.val.kind)), (.int .i64 ((lOf 1 ⟨#[120]⟩).left.term.val.num)), (.string ((lOf 1 ⟨#[120]⟩).left.term.val.text)), lk278, (.int .i8 ((lOf 1 ⟨#[120]⟩).right.op)), (.string ((lOf 1 ⟨#[120]⟩).right.term.var)), (.int .i8 ((lOf 1 ⟨#[120]⟩).right.term.val.kind)), (.int .i64 ((lOf 1 ⟨#[120]⟩).right.term.val.num)), (.string ((lOf 1 ⟨#[120]⟩).right.term.val.text)), rk279] ta61 ts61 rfl ((hr275.at st265).part 0 16) rfl ?_)
 refine W1 (OpT.alloc st265 (.agg #[(.int .i8 (0)), ve, vn, (.int .i8 (0)), (.int .i8 (0)), ve, (.int .i8 (0)), (ii 0), ve, vn, (.int .i8 (0)), ve, (.int .i8 (0)), (ii 0), ve, vn]) [(.int .i8 (0)), ve, vn, (.int .i8 (0)), (.int .i8 (0)), ve, (.int .i8 (0)), (ii 0), ve, vn, (.int .i8 (0)), ve, (.int .i8 (0)), (ii 0), ve, vn] tz61 rfl (fun b283 w284 st285 => ?_))
 refine WL.stepN (OpT.storeA st285 0 16 [(.int .i8 (1)), (vs 120), av277, (.int .i8 ((lOf 1 ⟨#[120]⟩).rel)), (.int .i8 ((lOf 1 ⟨#[120]⟩).left.op)), (.string ((lOf 1 ⟨#[120]⟩).left.term.var)), (.int .i8 ((lOf 1 ⟨#[120]⟩).left.term.val.kind)), (.int .i64 ((lOf 1 ⟨#[120]⟩).left.term.val.num)), (.string ((lOf 1 ⟨#[120]⟩).left.term.val.text)), lk278, (.int .i8 ((lOf 1 ⟨#[120]⟩).right.op)), (.string ((lOf 1 ⟨#[120]⟩).right.term.var)), (.int .i8 ((lOf 1 ⟨#[120]⟩).right.term.val.kind)), (.int .i64 ((lOf 1 ⟨#[120]⟩).right.term.val.num)), (.string ((lOf 1 ⟨#[120]⟩).right.term.val.text)), rk279] rfl ts61 rfl rfl (aC rfl (aC rfl (aC (Rl.sl_one ha280) (aC rfl (aC rfl (aC rfl (aC rfl (aC rfl (aC rfl (aC (Rl.sl_one hl281) (aC rfl (aC rfl (aC rfl (aC rfl (aC rfl (aC (Rl.sl_one hr282) aN)))))))))))))))) rfl rfl (fun w286 st287 => ?_))
 refine Wns ?_
 refine W1 (OpT.field 0 ⟨b283, 0, none⟩ ⟨b283, 0, none⟩ tf61_0 rfl rfl ?_)
 refine W1 (OpT.loadS ⟨b283, 0, none⟩ (.int .i8 (1)) ta51 rfl (st287.cellB (i := 0) rfl rfl) ?_)
 refine W1 (OpT.lit (b := (decide ((1 : Int) = (1 : Int)))) (c := true) (by decide) (fun hk => OpT.ieq .i8 (1) (1) rfl rfl hk) ?_)
 refine W1 (OpT.move (.bool true) rfl ?_)
 refine WL.pass (dj := 15) (c := true) rfl rfl rfl rfl rfl ?_
 refine WL.pass (dj := 15) (c := true) rfl rfl rfl rfl rfl ?_
 refine WL.pass (dj := 15) (c := true) rfl rfl rfl rfl rfl ?_
 refine W1 (OpT.pickT (.bool true) rfl rfl ?_)
 refine Wnt ?_
 refine WC.condT rfl ?_
 refine WC.region ?_
 refine W1 (OpT.move (.func (.func 48) #[] #[(pt b7 0), (pt b261 0)]) hI271.1 ?_)
 refine W1 (OpT.loadA ⟨b283, 0, none⟩ 16 [(.int .i8 (1)), (vs 120), av277, (.int .i8 ((lOf 1 ⟨#[120]⟩).rel)), (.int .i8 ((lOf 1 ⟨#[120]⟩).left.op)), (.string ((lOf 1 ⟨#[120]⟩).left.term.var)), (.int .i8 ((lOf 1 ⟨#[120]⟩).left.term.val.kind)), (.int .i64 ((lOf 1 ⟨#[120]⟩).left.term.val.num)), (.string ((lOf 1 ⟨#[120]⟩).left.term.val.text)), lk278, (.int .i8 ((lOf 1 ⟨#[120]⟩).right.op)), (.string ((lOf 1 ⟨#[120]⟩).right.term.var)), (.int .i8 ((lOf 1 ⟨#[120]⟩).right.term.val.kind)), (.int .i64 ((lOf 1 ⟨#[120]⟩).right.term.val.num)), (.string ((lOf 1 ⟨#[120]⟩).right.term.val.text)), rk279] ta61 ts61 rfl ((st287.rowB (i := 0) rfl).part 0 16) rfl ?_)
 refine W1 (OpT.callC cal48 [] [(pt b7 0), (pt b261 0)] [(.agg #[(.int .i8 (1)), (vs 120), av277, (.int .i8 ((lOf 1 ⟨#[120]⟩).rel)), (.int .i8 ((lOf 1 ⟨#[120]⟩).left.op)), (.string ((lOf 1 ⟨#[120]⟩).left.term.var)), (.int .i8 ((lOf 1 ⟨#[120]⟩).left.term.val.kind)), (.int .i64 ((lOf 1 ⟨#[120]⟩).left.term.val.num)), (.string ((lOf 1 ⟨#[120]⟩).left.term.val.text)), lk278, (.int .i8 ((lOf 1 ⟨#[120]⟩).right.op)), (.string ((lOf 1 ⟨#[120]⟩).right.term.var)), (.int .i8 ((lOf 1 ⟨#[120]⟩).right.term.val.kind)), (.int .i64 ((lOf 1 ⟨#[120]⟩).right.term.val.num)), (.string ((lOf 1 ⟨#[120]⟩).right.term.val.text)), rk279]), (pt b7 0), (pt b261 0)] rfl (ca1 rfl) ?_)
 refine calls_of_WC (m := 32) (rs := []) Try.func48 rfl rfl rfl rfl ?_
 refine Wsr ?_
 refine W1 (OpT.box st287 (.agg #[(.int .i8 (1)), (vs 120), av277, (.int .i8 ((lOf 1 ⟨#[120]⟩).rel)), (.int .i8 ((lOf 1 ⟨#[120]⟩).left.op)), (.string ((lOf 1 ⟨#[120]⟩).left.term.var)), (.int .i8 ((lOf 1 ⟨#[120]⟩).left.term.val.kind)), (.int .i64 ((lOf 1 ⟨#[120]⟩).left.term.val.num)), (.string ((lOf 1 ⟨#[120]⟩).left.term.val.text)), lk278, (.int .i8 ((lOf 1 ⟨#[120]⟩).right.op)), (.string ((lOf 1 ⟨#[120]⟩).right.term.var)), (.int .i8 ((lOf 1 ⟨#[120]⟩).right.term.val.kind)), (.int .i64 ((lOf 1 ⟨#[120]⟩).right.term.val.num)), (.string ((lOf 1 ⟨#[120]⟩).right.term.val.text)), rk279]) [(.int .i8 (1)), (vs 120), av277, (.int .i8 ((lOf 1 ⟨#[120]⟩).rel)), (.int .i8 ((lOf 1 ⟨#[120]⟩).left.op)), (.string ((lOf 1 ⟨#[120]⟩).left.term.var)), (.int .i8 ((lOf 1 ⟨#[120]⟩).left.term.val.kind)), (.int .i64 ((lOf 1 ⟨#[120]⟩).left.term.val.num)), (.string ((lOf 1 ⟨#[120]⟩).left.term.val.text)), lk278, (.int .i8 ((lOf 1 ⟨#[120]⟩).right.op)), (.string ((lOf 1 ⟨#[120]⟩).right.term.var)), (.int .i8 ((lOf 1 ⟨#[120]⟩).right.term.val.kind)), (.int .i64 ((lOf 1 ⟨#[120]⟩).right.term.val.num)), (.string ((lOf 1 ⟨#[120]⟩).right.term.val.text)), rk279] rfl rfl (fun b288 w289 st290 => ?_))
 refine Wnt ?_
 refine WC.seq ?_
 have st291 : St Z w0 w289 (Blk b288 61 [(.int .i8 (1)), (vs 120), av277, (.int .i8 ((lOf 1 ⟨#[120]⟩).rel)), (.int .i8 ((lOf 1 ⟨#[120]⟩).left.op)), (.string ((lOf 1 ⟨#[120]⟩).left.term.var)), (.int .i8 ((lOf 1 ⟨#[120]⟩).left.term.val.kind)), (.int .i64 ((lOf 1 ⟨#[120]⟩).left.term.val.num)), (.string ((lOf 1 ⟨#[120]⟩).left.term.val.text)), lk278, (.int .i8 ((lOf 1 ⟨#[120]⟩).right.op)), (.string ((lOf 1 ⟨#[120]⟩).right.term.var)), (.int .i8 ((lOf 1 ⟨#[120]⟩).right.term.val.kind)), (.int .i64 ((lOf 1 ⟨#[120]⟩).right.term.val.num)), (.string ((lOf 1 ⟨#[120]⟩).right.term.val.text)), rk279] :: Blk b283 61 [(.int .i8 (1)), (vs 120), av277, (.int .i8 ((lOf 1 ⟨#[120]⟩).rel)), (.int .i8 ((lOf 1 ⟨#[120]⟩).left.op)), (.string ((lOf 1 ⟨#[120]⟩).left.term.var)), (.int .i8 ((lOf 1 ⟨#[120]⟩).left.term.val.kind)), (.int .i64 ((lOf 1 ⟨#[120]⟩).left.term.val.num)), (.string ((lOf 1 ⟨#[120]⟩).left.term.val.text)), lk278, (.int .i8 ((lOf 1 ⟨#[120]⟩).right.op)), (.string ((lOf 1 ⟨#[120]⟩).right.term.var)), (.int .i8 ((lOf 1 ⟨#[120]⟩).right.term.val.kind)), (.int .i64 ((lOf 1 ⟨#[120]⟩).right.term.val.num)), (.string ((lOf 1 ⟨#[120]⟩).right.term.val.text)), rk279] :: Blk b261 31 [(vs 121), hv257, bv258] :: Blk g228 9 (cx [(vs 121), (vs 122)] ex230) :: Blk b7 99 [(.map (some b4))] :: Mp Value.string (fun v : Value => v) b4 ([((⟨#[122]⟩ : ByteArray), (sl g228 2 cap229)), ((⟨#[121]⟩ : ByteArray), vn)] : List (ByteArray × Value)) :: L) := st290
 refine WC.drawW (L := (Blk b288 61 [(.int .i8 (1)), (vs 120), av277, (.int .i8 ((lOf 1 ⟨#[120]⟩).rel)), (.int .i8 ((lOf 1 ⟨#[120]⟩).left.op)), (.string ((lOf 1 ⟨#[120]⟩).left.term.var)), (.int .i8 ((lOf 1 ⟨#[120]⟩).left.term.val.kind)), (.int .i64 ((lOf 1 ⟨#[120]⟩).left.term.val.num)), (.string ((lOf 1 ⟨#[120]⟩).left.term.val.text)), lk278, (.int .i8 ((lOf 1 ⟨#[120]⟩).right.op)), (.string ((lOf 1 ⟨#[120]⟩).right.term.var)), (.int .i8 ((lOf 1 ⟨#[120]⟩).right.term.val.kind)), (.int .i64 ((lOf 1 ⟨#[120]⟩).right.term.val.num)), (.string ((lOf 1 ⟨#[120]⟩).right.term.val.text)), rk279] :: Blk b283 61 [(.int .i8 (1)), (vs 120), av277, (.int .i8 ((lOf 1 ⟨#[120]⟩).rel)), (.int .i8 ((lOf 1 ⟨#[120]⟩).left.op)), (.string ((lOf 1 ⟨#[120]⟩).left.term.var)), (.int .i8 ((lOf 1 ⟨#[120]⟩).left.term.val.kind)), (.int .i64 ((lOf 1 ⟨#[120]⟩).left.term.val.num)), (.string ((lOf 1 ⟨#[120]⟩).left.term.val.text)), lk278, (.int .i8 ((lOf 1 ⟨#[120]⟩).right.op)), (.string ((lOf 1 ⟨#[120]⟩).right.term.var)), (.int .i8 ((lOf 1 ⟨#[120]⟩).right.term.val.kind)), (.int .i64 ((lOf 1 ⟨#[120]⟩).right.term.val.num)), (.string ((lOf 1 ⟨#[120]⟩).right.term.val.text)), rk279] :: Blk b261 31 [(vs 121), hv257, bv258] :: Blk g228 9 (cx [(vs 121), (vs 122)] ex230) :: Blk b7 99 [(.map (some b4))] :: Mp Value.string (fun v : Value => v) b4 ([((⟨#[122]⟩ : ByteArray), (sl g228 2 cap229)), ((⟨#[121]⟩ : ByteArray), vn)] : List (ByteArray × Value)) :: L)) 12 (fun jj vals vv => match jj with | 0 => vv = (.map (some b4)) | 1 => vv = (pt b261 0) | 2 => vv = (vs 121) | 3 => vv = (.map (some b4)) | 4 => vv = (pt b261 0) | 5 => vv = (vs 121) | 6 => vv = vn | 7 => vv = (pt b288 1) | 8 => vv = (pt b288 1) | 9 => vv = (vs 120) | 10 => vv = (sl (bk vv) 1 1) | 11 => vv.oneCell' = true ∧ vv.cells = #[vv] | _ => True) (fun jj vals vv => match jj with | 11 => [Row 9 1 vv 1 [(vs 120)]] | 10 => [Blk (bk vv) 9 [(vs 120)]] | _ => []) (fun jj => match jj with | _ => []) (fun jj => match jj with | 11 => some 10 | _ => none) st291 fmix (by kernel_rfl) (by kernel_rfl) ((obS (obS (obS (obS (obS (obS (obS (obS (obS (obS (obS (obS ob0 (fun aa bb vv h hf => hf)) (fun aa bb vv h hf => hf)) (fun aa bb vv h hf => hf)) (fun aa bb vv h hf => hf)) (fun aa bb vv h hf => hf)) (fun aa bb vv h hf => hf)) (fun aa bb vv h hf => hf)) (fun aa bb vv h hf => hf)) (fun aa bb vv h hf => hf)) (fun aa bb vv h hf => hf)) (fun aa bb vv h hf => hf)) (fun aa bb vv h hf => hf))) ((obS (obS (obS (obS (obS (obS (obS (obS (obS (obS (obS (obS ob0 (fun aa bb vv h => rfl)) (fun aa bb vv h => rfl)) (fun aa bb vv h => rfl)) (fun aa bb vv h => rfl)) (fun aa bb vv h => rfl)) (fun aa bb vv h => rfl)) (fun aa bb vv h => rfl)) (fun aa bb vv h => rfl)) (fun aa bb vv h => rfl)) (fun aa bb vv h => rfl)) (fun aa bb vv h => rfl)) (fun aa bb vv h => rfl))) ((obS (obS (obS (obS (obS (obS (obS (obS (obS (obS (obS (obS ob0 ?_) ?_) ?_) ?_) ?_) ?_) ?_) ?_) ?_) ?_) ?_) ?_)) ?_
 ·intro vals ρ w293 X hd h0 st292
  have e294 : ρ 1 = (pt b7 0) := (h0 1 rfl).trans rfl
  refine W1 (OpT.loadS ⟨b7, 0, none⟩ (.map (some b4)) ta99 e294 (st292.cellB (i := 4) rfl rfl) ?_)
  refine WL.nil ?_
  exact oneQ.mk ⟨rfl, st292⟩
 ·intro vals ρ w296 X hd h0 st295
  have e297 : ρ 2 = (pt b261 0) := (h0 2 rfl).trans rfl
  refine W1 (OpT.field 0 ⟨b261, 0, none⟩ ⟨b261, 0, none⟩ tf31_0 e297 rfl ?_)
  refine WL.nil ?_
  exact oneQ.mk ⟨rfl, st295⟩
 ·intro vals ρ w299 X hd h0 st298
  have e300 : ρ 7 = (pt b261 0) := ((hd 1 rfl).2 7 rfl).trans (hd 1 rfl).1
  refine W1 (OpT.loadS ⟨b261, 0, none⟩ (vs 121) ta9 e300 (st298.cellB (i := 2) rfl rfl) ?_)
  refine WL.nil ?_
  exact oneQ.mk ⟨rfl, st298⟩
 ·intro vals ρ w302 X hd h0 st301
  have e303 : ρ 1 = (pt b7 0) := (h0 1 rfl).trans rfl
  refine W1 (OpT.loadS ⟨b7, 0, none⟩ (.map (some b4)) ta99 e303 (st301.cellB (i := 4) rfl rfl) ?_)
  refine WL.nil ?_
  exact oneQ.mk ⟨rfl, st301⟩
 ·intro vals ρ w305 X hd h0 st304
  have e306 : ρ 2 = (pt b261 0) := (h0 2 rfl).trans rfl
  refine W1 (OpT.field 0 ⟨b261, 0, none⟩ ⟨b261, 0, none⟩ tf31_0 e306 rfl ?_)
  refine WL.nil ?_
  exact oneQ.mk ⟨rfl, st304⟩
 ·intro vals ρ w308 X hd h0 st307
  have e309 : ρ 10 = (pt b261 0) := ((hd 4 rfl).2 10 rfl).trans (hd 4 rfl).1
  refine W1 (OpT.loadS ⟨b261, 0, none⟩ (vs 121) ta9 e309 (st307.cellB (i := 2) rfl rfl) ?_)
  refine WL.nil ?_
  exact oneQ.mk ⟨rfl, st307⟩
 ·intro vals ρ w311 X hd h0 st310
  have e312 : ρ 9 = (.map (some b4)) := ((hd 3 rfl).2 9 rfl).trans (hd 3 rfl).1
  have e313 : ρ 11 = (vs 121) := ((hd 5 rfl).2 11 rfl).trans (hd 5 rfl).1
  refine W1 (OpT.litV (v := ((mget ([((⟨#[122]⟩ : ByteArray), (sl g228 2 cap229)), ((⟨#[121]⟩ : ByteArray), vn)] : List (ByteArray × Value)) (⟨#[121]⟩ : ByteArray)).getD vn)) (v' := vn) (by simp [mget_cons, mget_nil]) (fun hk => OpT.lookupV st310 5 rfl ko9 tu99 tz68 ((⟨#[121]⟩ : ByteArray)) e312 e313 hk) ?_)
  refine WL.nil ?_
  exact oneQ.mk ⟨rfl, st310⟩
 ·intro vals ρ w315 X hd h0 st314
  have e316 : ρ 3 = (pt b288 0) := (h0 3 rfl).trans rfl
  refine W1 (OpT.field 1 ⟨b288, 0, none⟩ ⟨b288, 1, none⟩ tf61_1 e316 rfl ?_)
  refine WL.nil ?_
  exact oneQ.mk ⟨rfl, st314⟩
 ·intro vals ρ w318 X hd h0 st317
  have e319 : ρ 13 = (pt b288 1) := ((hd 7 rfl).2 13 rfl).trans (hd 7 rfl).1
  refine W1 (OpT.field 0 ⟨b288, 1, none⟩ ⟨b288, 1, none⟩ tf54_0 e319 rfl ?_)
  refine WL.nil ?_
  exact oneQ.mk ⟨rfl, st317⟩
 ·intro vals ρ w321 X hd h0 st320
  have e322 : ρ 14 = (pt b288 1) := ((hd 8 rfl).2 14 rfl).trans (hd 8 rfl).1
  refine W1 (OpT.loadS ⟨b288, 1, none⟩ (vs 120) ta9 e322 (st320.cellB (i := 0) rfl rfl) ?_)
  refine WL.nil ?_
  exact oneQ.mk ⟨rfl, st320⟩
 ·intro vals ρ w324 X hd h0 st323
  have e325 : ρ 15 = (vs 120) := ((hd 9 rfl).2 15 rfl).trans (hd 9 rfl).1
  refine W1 (OpT.buildSlice st323 [(0, (vs 120))] [(vs 120)] tu68 ts9 tz9 (mp1 e325) (by kernel_rfl) (by decide) (fun b326 w327 st328 => ?_))
  refine WL.nil ?_
  exact oneQ.mk ⟨rfl, st328⟩
 ·intro vals ρ w330 X hd h0 st329
  have e331 : ρ 12 = vn := ((hd 6 rfl).2 12 rfl).trans (hd 6 rfl).1
  have e332 : ρ 16 = (sl (bk (vals 10)) 1 1) := ((hd 10 rfl).2 16 rfl).trans (hd 10 rfl).1
  have st333 := St.rowNil 9 1 (st329 : St Z w0 w330 (Blk (bk (vals 10)) 9 [(vs 120)] :: Blk b288 61 [(.int .i8 (1)), (vs 120), av277, (.int .i8 ((lOf 1 ⟨#[120]⟩).rel)), (.int .i8 ((lOf 1 ⟨#[120]⟩).left.op)), (.string ((lOf 1 ⟨#[120]⟩).left.term.var)), (.int .i8 ((lOf 1 ⟨#[120]⟩).left.term.val.kind)), (.int .i64 ((lOf 1 ⟨#[120]⟩).left.term.val.num)), (.string ((lOf 1 ⟨#[120]⟩).left.term.val.text)), lk278, (.int .i8 ((lOf 1 ⟨#[120]⟩).right.op)), (.string ((lOf 1 ⟨#[120]⟩).right.term.var)), (.int .i8 ((lOf 1 ⟨#[120]⟩).right.term.val.kind)), (.int .i64 ((lOf 1 ⟨#[120]⟩).right.term.val.num)), (.string ((lOf 1 ⟨#[120]⟩).right.term.val.text)), rk279] :: Blk b283 61 [(.int .i8 (1)), (vs 120), av277, (.int .i8 ((lOf 1 ⟨#[120]⟩).rel)), (.int .i8 ((lOf 1 ⟨#[120]⟩).left.op)), (.string ((lOf 1 ⟨#[120]⟩).left.term.var)), (.int .i8 ((lOf 1 ⟨#[120]⟩).left.term.val.kind)), (.int .i64 ((lOf 1 ⟨#[120]⟩).left.term.val.num)), (.string ((lOf 1 ⟨#[120]⟩).left.term.val.text)), lk278, (.int .i8 ((lOf 1 ⟨#[120]⟩).right.op)), (.string ((lOf 1 ⟨#[120]⟩).right.term.var)), (.int .i8 ((lOf 1 ⟨#[120]⟩).right.term.val.kind)), (.int .i64 ((lOf 1 ⟨#[120]⟩).right.term.val.num)), (.string ((lOf 1 ⟨#[120]⟩).right.term.val.text)), rk279] :: Blk b261 31 [(vs 121), hv257, bv258] :: Blk g228 9 (cx [(vs 121), (vs 122)] ex230) :: Blk b7 99 [(.map (some b4))] :: Mp Value.string (fun v : Value => v) b4 ([((⟨#[122]⟩ : ByteArray), (sl g228 2 cap229)), ((⟨#[121]⟩ : ByteArray), vn)] : List (ByteArray × Value)) :: (L ++ X)))
  have st334 : St Z w0 w330 (Blk (bk (vals 10)) 9 [(vs 120)] :: Row 9 1 vn 0 [] :: Blk b288 61 [(.int .i8 (1)), (vs 120), av277, (.int .i8 ((lOf 1 ⟨#[120]⟩).rel)), (.int .i8 ((lOf 1 ⟨#[120]⟩).left.op)), (.string ((lOf 1 ⟨#[120]⟩).left.term.var)), (.int .i8 ((lOf 1 ⟨#[120]⟩).left.term.val.kind)), (.int .i64 ((lOf 1 ⟨#[120]⟩).left.term.val.num)), (.string ((lOf 1 ⟨#[120]⟩).left.term.val.text)), lk278, (.int .i8 ((lOf 1 ⟨#[120]⟩).right.op)), (.string ((lOf 1 ⟨#[120]⟩).right.term.var)), (.int .i8 ((lOf 1 ⟨#[120]⟩).right.term.val.kind)), (.int .i64 ((lOf 1 ⟨#[120]⟩).right.term.val.num)), (.string ((lOf 1 ⟨#[120]⟩).right.term.val.text)), rk279] :: Blk b283 61 [(.int .i8 (1)), (vs 120), av277, (.int .i8 ((lOf 1 ⟨#[120]⟩).rel)), (.int .i8 ((lOf 1 ⟨#[120]⟩).left.op)), (.string ((lOf 1 ⟨#[120]⟩).left.term.var)), (.int .i8 ((lOf 1 ⟨#[120]⟩).left.term.val.kind)), (.int .i64 ((lOf 1 ⟨#[120]⟩).left.term.val.num)), (.string ((lOf 1 ⟨#[120]⟩).left.term.val.text)), lk278, (.int .i8 ((lOf 1 ⟨#[120]⟩).right.op)), (.string ((lOf 1 ⟨#[120]⟩).right.term.var)), (.int .i8 ((lOf 1 ⟨#[120]⟩).right.term.val.kind)), (.int .i64 ((lOf 1 ⟨#[120]⟩).right.term.val.num)), (.string ((lOf 1 ⟨#[120]⟩).right.term.val.text)), rk279] :: Blk b261 31 [(vs 121), hv257, bv258] :: Blk g228 9 (cx [(vs 121), (vs 122)] ex230) :: Blk b7 99 [(.map (some b4))] :: Mp Value.string (fun v : Value => v) b4 ([((⟨#[122]⟩ : ByteArray), (sl g228 2 cap229)), ((⟨#[121]⟩ : ByteArray), vn)] : List (ByteArray × Value)) :: (L ++ X)) := St.selT [Row 9 1 vn 0 [], Blk (bk (vals 10)) 9 [(vs 120)], Blk b288 61 [(.int .i8 (1)), (vs 120), av277, (.int .i8 ((lOf 1 ⟨#[120]⟩).rel)), (.int .i8 ((lOf 1 ⟨#[120]⟩).left.op)), (.string ((lOf 1 ⟨#[120]⟩).left.term.var)), (.int .i8 ((lOf 1 ⟨#[120]⟩).left.term.val.kind)), (.int .i64 ((lOf 1 ⟨#[120]⟩).left.term.val.num)), (.string ((lOf 1 ⟨#[120]⟩).left.term.val.text)), lk278, (.int .i8 ((lOf 1 ⟨#[120]⟩).right.op)), (.string ((lOf 1 ⟨#[120]⟩).right.term.var)), (.int .i8 ((lOf 1 ⟨#[120]⟩).right.term.val.kind)), (.int .i64 ((lOf 1 ⟨#[120]⟩).right.term.val.num)), (.string ((lOf 1 ⟨#[120]⟩).right.term.val.text)), rk279], Blk b283 61 [(.int .i8 (1)), (vs 120), av277, (.int .i8 ((lOf 1 ⟨#[120]⟩).rel)), (.int .i8 ((lOf 1 ⟨#[120]⟩).left.op)), (.string ((lOf 1 ⟨#[120]⟩).left.term.var)), (.int .i8 ((lOf 1 ⟨#[120]⟩).left.term.val.kind)), (.int .i64 ((lOf 1 ⟨#[120]⟩).left.term.val.num)), (.string ((lOf 1 ⟨#[120]⟩).left.term.val.text)), lk278, (.int .i8 ((lOf 1 ⟨#[120]⟩).right.op)), (.string ((lOf 1 ⟨#[120]⟩).right.term.var)), (.int .i8 ((lOf 1 ⟨#[120]⟩).right.term.val.kind)), (.int .i64 ((lOf 1 ⟨#[120]⟩).right.term.val.num)), (.string ((lOf 1 ⟨#[120]⟩).right.term.val.text)), rk279], Blk b261 31 [(vs 121), hv257, bv258], Blk g228 9 (cx [(vs 121), (vs 122)] ex230), Blk b7 99 [(.map (some b4))], Mp Value.string (fun v : Value => v) b4 ([((⟨#[122]⟩ : ByteArray), (sl g228 2 cap229)), ((⟨#[121]⟩ : ByteArray), vn)] : List (ByteArray × Value))] [1, 0, 2, 3, 4, 5, 6, 7] rfl (by decide) st333
  refine W1 (OpT.appendK st334 1 tu68 ts9 tz9 rfl tb9 (by decide) e331 e332 rfl rfl (by decide) (by decide) (fun v335 w336 st337 hn338 => ?_))
  have o339 := st337.rowOne (i := 1) rfl
  have c340 := st337.rowCel (i := 1) rfl
  refine WL.nil ?_
  exact oneQ.mk ⟨⟨o339, c340⟩, (St.selD 8 [1, 0, 2, 3, 4, 5, 6, 7] rfl rfl (by decide) st337)⟩
 intro vals ρ343 w342 hv h0 st341
 replace st341 : St Z w0 w342 (Blk (bk (vals 10)) 9 [(vs 120)] :: Row 9 1 (vals 11) 1 [(vs 120)] :: Blk b288 61 [(.int .i8 (1)), (vs 120), av277, (.int .i8 ((lOf 1 ⟨#[120]⟩).rel)), (.int .i8 ((lOf 1 ⟨#[120]⟩).left.op)), (.string ((lOf 1 ⟨#[120]⟩).left.term.var)), (.int .i8 ((lOf 1 ⟨#[120]⟩).left.term.val.kind)), (.int .i64 ((lOf 1 ⟨#[120]⟩).left.term.val.num)), (.string ((lOf 1 ⟨#[120]⟩).left.term.val.text)), lk278, (.int .i8 ((lOf 1 ⟨#[120]⟩).right.op)), (.string ((lOf 1 ⟨#[120]⟩).right.term.var)), (.int .i8 ((lOf 1 ⟨#[120]⟩).right.term.val.kind)), (.int .i64 ((lOf 1 ⟨#[120]⟩).right.term.val.num)), (.string ((lOf 1 ⟨#[120]⟩).right.term.val.text)), rk279] :: Blk b283 61 [(.int .i8 (1)), (vs 120), av277, (.int .i8 ((lOf 1 ⟨#[120]⟩).rel)), (.int .i8 ((lOf 1 ⟨#[120]⟩).left.op)), (.string ((lOf 1 ⟨#[120]⟩).left.term.var)), (.int .i8 ((lOf 1 ⟨#[120]⟩).left.term.val.kind)), (.int .i64 ((lOf 1 ⟨#[120]⟩).left.term.val.num)), (.string ((lOf 1 ⟨#[120]⟩).left.term.val.text)), lk278, (.int .i8 ((lOf 1 ⟨#[120]⟩).right.op)), (.string ((lOf 1 ⟨#[120]⟩).right.term.var)), (.int .i8 ((lOf 1 ⟨#[120]⟩).right.term.val.kind)), (.int .i64 ((lOf 1 ⟨#[120]⟩).right.term.val.num)), (.string ((lOf 1 ⟨#[120]⟩).right.term.val.text)), rk279] :: Blk b261 31 [(vs 121), hv257, bv258] :: Blk g228 9 (cx [(vs 121), (vs 122)] ex230) :: Blk b7 99 [(.map (some b4))] :: Mp Value.string (fun v : Value => v) b4 ([((⟨#[122]⟩ : ByteArray), (sl g228 2 cap229)), ((⟨#[121]⟩ : ByteArray), vn)] : List (ByteArray × Value)) :: L) := st341
 have e344 : ρ343 1 = (pt b7 0) := (h0 1 rfl).trans rfl
 have e345 : ρ343 3 = (pt b288 0) := (h0 3 rfl).trans rfl
 have e346 : ρ343 6 = (.map (some b4)) := ((hv 0 rfl).2 6 rfl).trans (hv 0 rfl).1
 have e347 : ρ343 8 = (vs 121) := ((hv 2 rfl).2 8 rfl).trans (hv 2 rfl).1
 have o348 : (vals 11).oneCell' = true := (hv 11 rfl).1.1
 have c349 : (vals 11).cells = #[vals 11] := (hv 11 rfl).1.2
 have e350 : ρ343 17 = (vals 11) := ((hv 11 rfl).2 17 rfl)
 have o351 : (vals 11).oneCell' = true := (hv 11 rfl).1.1
 have c352 : (vals 11).cells = #[vals 11] := (hv 11 rfl).1.2
 clear hv h0
 generalize bk (vals 10) = b353 at *
 generalize vals 11 = v354 at *
 obtain ⟨g355, cap356, ex357, rfl, hE358, hc359, hm360, st361⟩ := St.openRow (n := 1) (cs := [(vs 120)]) (by decide) ((St.selD 8 [1, 0, 2, 3, 4, 5, 6, 7] rfl rfl (by decide) st341) : St Z w0 w342 (Row 9 1 v354 1 [(vs 120)] :: Blk b353 9 [(vs 120)] :: Blk b288 61 [(.int .i8 (1)), (vs 120), av277, (.int .i8 ((lOf 1 ⟨#[120]⟩).rel)), (.int .i8 ((lOf 1 ⟨#[120]⟩).left.op)), (.string ((lOf 1 ⟨#[120]⟩).left.term.var)), (.int .i8 ((lOf 1 ⟨#[120]⟩).left.term.val.kind)), (.int .i64 ((lOf 1 ⟨#[120]⟩).left.term.val.num)), (.string ((lOf 1 ⟨#[120]⟩).left.term.val.text)), lk278, (.int .i8 ((lOf 1 ⟨#[120]⟩).right.op)), (.string ((lOf 1 ⟨#[120]⟩).right.term.var)), (.int .i8 ((lOf 1 ⟨#[120]⟩).right.term.val.kind)), (.int .i64 ((lOf 1 ⟨#[120]⟩).right.term.val.num)), (.string ((lOf 1 ⟨#[120]⟩).right.term.val.text)), rk279] :: Blk b283 61 [(.int .i8 (1)), (vs 120), av277, (.int .i8 ((lOf 1 ⟨#[120]⟩).rel)), (.int .i8 ((lOf 1 ⟨#[120]⟩).left.op)), (.string ((lOf 1 ⟨#[120]⟩).left.term.var)), (.int .i8 ((lOf 1 ⟨#[120]⟩).left.term.val.kind)), (.int .i64 ((lOf 1 ⟨#[120]⟩).left.term.val.num)), (.string ((lOf 1 ⟨#[120]⟩).left.term.val.text)), lk278, (.int .i8 ((lOf 1 ⟨#[120]⟩).right.op)), (.string ((lOf 1 ⟨#[120]⟩).right.term.var)), (.int .i8 ((lOf 1 ⟨#[120]⟩).right.term.val.kind)), (.int .i64 ((lOf 1 ⟨#[120]⟩).right.term.val.num)), (.string ((lOf 1 ⟨#[120]⟩).right.term.val.text)), rk279] :: Blk b261 31 [(vs 121), hv257, bv258] :: Blk g228 9 (cx [(vs 121), (vs 122)] ex230) :: Blk b7 99 [(.map (some b4))] :: Mp Value.string (fun v : Value => v) b4 ([((⟨#[122]⟩ : ByteArray), (sl g228 2 cap229)), ((⟨#[121]⟩ : ByteArray), vn)] : List (ByteArray × Value)) :: L))
 replace st361 : St Z w0 w342 (Blk g355 9 (cx [(vs 120)] ex357) :: Blk b353 9 [(vs 120)] :: Blk b288 61 [(.int .i8 (1)), (vs 120), av277, (.int .i8 ((lOf 1 ⟨#[120]⟩).rel)), (.int .i8 ((lOf 1 ⟨#[120]⟩).left.op)), (.string ((lOf 1 ⟨#[120]⟩).left.term.var)), (.int .i8 ((lOf 1 ⟨#[120]⟩).left.term.val.kind)), (.int .i64 ((lOf 1 ⟨#[120]⟩).left.term.val.num)), (.string ((lOf 1 ⟨#[120]⟩).left.term.val.text)), lk278, (.int .i8 ((lOf 1 ⟨#[120]⟩).right.op)), (.string ((lOf 1 ⟨#[120]⟩).right.term.var)), (.int .i8 ((lOf 1 ⟨#[120]⟩).right.term.val.kind)), (.int .i64 ((lOf 1 ⟨#[120]⟩).right.term.val.num)), (.string ((lOf 1 ⟨#[120]⟩).right.term.val.text)), rk279] :: Blk b283 61 [(.int .i8 (1)), (vs 120), av277, (.int .i8 ((lOf 1 ⟨#[120]⟩).rel)), (.int .i8 ((lOf 1 ⟨#[120]⟩).left.op)), (.string ((lOf 1 ⟨#[120]⟩).left.term.var)), (.int .i8 ((lOf 1 ⟨#[120]⟩).left.term.val.kind)), (.int .i64 ((lOf 1 ⟨#[120]⟩).left.term.val.num)), (.string ((lOf 1 ⟨#[120]⟩).left.term.val.text)), lk278, (.int .i8 ((lOf 1 ⟨#[120]⟩).right.op)), (.string ((lOf 1 ⟨#[120]⟩).right.term.var)), (.int .i8 ((lOf 1 ⟨#[120]⟩).right.term.val.kind)), (.int .i64 ((lOf 1 ⟨#[120]⟩).right.term.val.num)), (.string ((lOf 1 ⟨#[120]⟩).right.term.val.text)), rk279] :: Blk b261 31 [(vs 121), hv257, bv258] :: Blk g228 9 (cx [(vs 121), (vs 122)] ex230) :: Blk b7 99 [(.map (some b4))] :: Mp Value.string (fun v : Value => v) b4 ([((⟨#[122]⟩ : ByteArray), (sl g228 2 cap229)), ((⟨#[121]⟩ : ByteArray), vn)] : List (ByteArray × Value)) :: L) := st361
 have e364 : mset ([((⟨#[122]⟩ : ByteArray), (sl g228 2 cap229)), ((⟨#[121]⟩ : ByteArray), vn)] : List (ByteArray × Value)) (⟨#[121]⟩ : ByteArray) (sl g355 1 cap356) = ([((⟨#[122]⟩ : ByteArray), (sl g228 2 cap229)), ((⟨#[121]⟩ : ByteArray), (sl g355 1 cap356))] : List (ByteArray × Value)) := by simp [mset_cons, mset_nil]
 refine WL.stepN (OpT.mapSet st361 7 rfl ko9 tu99 ((⟨#[121]⟩ : ByteArray)) ((sl g355 1 cap356)) e346 e347 e350 (fun w362 st363 => ?_))
 rw [e364] at st363
 refine Wns ?_
 refine W1 (OpT.loadS ⟨b7, 0, none⟩ (.map (some b4)) ta99 e344 (st363.cellB (i := 6) rfl rfl) ?_)
 refine W1 (OpT.field 1 ⟨b288, 0, none⟩ ⟨b288, 1, none⟩ tf61_1 e345 rfl ?_)
 refine W1 (OpT.field 0 ⟨b288, 1, none⟩ ⟨b288, 1, none⟩ tf54_0 rfl rfl ?_)
 refine W1 (OpT.loadS ⟨b288, 1, none⟩ (vs 120) ta9 rfl (st363.cellB (i := 2) rfl rfl) ?_)
 refine W1 (OpT.litV (v := (.tuple #[((mget ([((⟨#[122]⟩ : ByteArray), (sl g228 2 cap229)), ((⟨#[121]⟩ : ByteArray), (sl g355 1 cap356))] : List (ByteArray × Value)) (⟨#[120]⟩ : ByteArray)).getD vn), (.bool ((mget ([((⟨#[122]⟩ : ByteArray), (sl g228 2 cap229)), ((⟨#[121]⟩ : ByteArray), (sl g355 1 cap356))] : List (ByteArray × Value)) (⟨#[120]⟩ : ByteArray)).isSome))])) (v' := (.tuple #[vn, (.bool false)])) (by simp [mget_cons, mget_nil]) (fun hk => OpT.lookupOkV st363 7 rfl ko9 tu99 tz68 ((⟨#[120]⟩ : ByteArray)) rfl rfl hk) ?_)
 refine W1 (OpT.move (.tuple #[vn, (.bool false)]) rfl ?_)
 refine W1 (OpT.extract [vn, (.bool false)] vn rfl rfl ?_)
 refine W1 (OpT.extract [vn, (.bool false)] (.bool false) rfl rfl ?_)
 refine W1 (OpT.assign vn rfl ?_)
 refine W1 (OpT.assign (.bool false) rfl ?_)
 refine Wns ?_
 refine W1 (OpT.move (.bool false) rfl ?_)
 refine W1 (OpT.not false rfl ?_)
 refine Wnt ?_
 refine WC.condT rfl ?_
 refine WC.region ?_
 refine W1 (OpT.loadS ⟨b7, 0, none⟩ (.map (some b4)) ta99 e344 (st363.cellB (i := 6) rfl rfl) ?_)
 refine W1 (OpT.field 1 ⟨b288, 0, none⟩ ⟨b288, 1, none⟩ tf61_1 e345 rfl ?_)
 refine W1 (OpT.field 0 ⟨b288, 1, none⟩ ⟨b288, 1, none⟩ tf54_0 rfl rfl ?_)
 refine W1 (OpT.loadS ⟨b288, 1, none⟩ (vs 120) ta9 rfl (st363.cellB (i := 2) rfl rfl) ?_)
 have e367 : mset ([((⟨#[122]⟩ : ByteArray), (sl g228 2 cap229)), ((⟨#[121]⟩ : ByteArray), (sl g355 1 cap356))] : List (ByteArray × Value)) (⟨#[120]⟩ : ByteArray) vn = ([((⟨#[122]⟩ : ByteArray), (sl g228 2 cap229)), ((⟨#[121]⟩ : ByteArray), (sl g355 1 cap356)), ((⟨#[120]⟩ : ByteArray), vn)] : List (ByteArray × Value)) := by simp [mset_cons, mset_nil]
 refine WL.stepN (OpT.mapSet st363 7 rfl ko9 tu99 ((⟨#[120]⟩ : ByteArray)) (vn) rfl rfl rfl (fun w365 st366 => ?_))
 rw [e367] at st366
 refine WL.nil ?_
 refine retQ.none (.inl rfl) ?_
 refine ⟨_, rfl, ?_⟩
 refine WL.nil ?_
 refine blkQ_n ?_
 refine thenQ_n ?_
 refine WC.region ?_
 refine W1 (OpT.iadd .i64 (0) (1) (1) hI271.2.2.2 rfl (by decide) ?_)
 refine W1 (OpT.move (ii 1) rfl ?_)
 refine WL.nil ?_
 refine unrQ_n ?_
 refine UL.cut (fun r => r 1 = (.func (.func 48) #[] #[(pt b7 0), (pt b261 0)]) ∧ r 6 = bv258 ∧ r 7 = (ii 1) ∧ r 8 = (ii 1)) ⟨hI271.1, hI271.2.1, hI271.2.2.1, rfl⟩ ?_
 have st373 : St Z w0 w365 (Blk g355 9 (cx [(vs 120)] ex357) :: Blk b261 31 [(vs 121), hv257, bv258] :: Blk g228 9 (cx [(vs 121), (vs 122)] ex230) :: Blk b7 99 [(.map (some b4))] :: Mp Value.string (fun v : Value => v) b4 ([((⟨#[122]⟩ : ByteArray), (sl g228 2 cap229)), ((⟨#[121]⟩ : ByteArray), (sl g355 1 cap356)), ((⟨#[120]⟩ : ByteArray), vn)] : List (ByteArray × Value)) :: L) := (St.selD 8 [0, 4, 5, 6, 7] rfl rfl (by decide) st366)
 intro ρ368 hI374
 refine UL.go ?_
 refine Wsr ?_
 refine W1 (OpT.lit (b := (decide ((1 : Int) < (1 : Int)))) (c := false) (by decide) (fun hk => OpT.ilt .i64 (1) (1) hI374.2.2.2 hI374.2.2.1 hk) ?_)
 refine Wnt ?_
 refine WC.seq ?_
 refine WC.condF rfl ?_
 refine WC.exit ?_
 refine thenQ_x ?_
 refine unrQ_x ?_
 refine blkQ_hit ?_
 refine retQ.none (.inl rfl) ?_
 refine ⟨_, rfl, ?_⟩
 refine WL.nil ?_
 refine blkQ_n ?_
 refine thenQ_n ?_
 refine WC.region ?_
 refine W1 (OpT.iadd .i64 (1) (1) (2) hI251.2.2.2 rfl (by decide) ?_)
 refine W1 (OpT.move (ii 2) rfl ?_)
 refine WL.nil ?_
 refine unrQ_n ?_
 refine UL.cut (fun r => r 3 = (pt b7 0) ∧ r 10 = (sl rb 2 2) ∧ r 11 = (ii 2) ∧ r 12 = (ii 2)) ⟨hI251.1, hI251.2.1, hI251.2.2.1, rfl⟩ ?_
 have st380 : St Z w0 w365 (Blk g355 9 (cx [(vs 120)] ex357) :: Blk g228 9 (cx [(vs 121), (vs 122)] ex230) :: Blk b7 99 [(.map (some b4))] :: Mp Value.string (fun v : Value => v) b4 ([((⟨#[122]⟩ : ByteArray), (sl g228 2 cap229)), ((⟨#[121]⟩ : ByteArray), (sl g355 1 cap356)), ((⟨#[120]⟩ : ByteArray), vn)] : List (ByteArray × Value)) :: L) := (St.selD 5 [0, 2, 3, 4] rfl rfl (by decide) st373)
 intro ρ375 hI381
 refine UL.go ?_
 refine Wsr ?_
 refine W1 (OpT.lit (b := (decide ((2 : Int) < (2 : Int)))) (c := false) (by decide) (fun hk => OpT.ilt .i64 (2) (2) hI381.2.2.2 hI381.2.2.1 hk) ?_)
 refine Wnt ?_
 refine WC.seq ?_
 refine WC.condF rfl ?_
 refine WC.exit ?_
 refine thenQ_x ?_
 refine unrQ_x ?_
 refine blkQ_hit ?_
 refine thenQ_n ?_
 refine Wsr ?_
 refine W1 (OpT.loadS ⟨b7, 0, none⟩ (.map (some b4)) ta99 hI381.1 (st380.cellB (i := 2) rfl rfl) ?_)
 refine W1 (OpT.assign (.map (some b4)) rfl ?_)
 refine Wnt ?_
 refine WC.ret <| retQ.one (.map (some b4)) rfl ?_
 exact ⟨_, rfl, b4, g228, cap229, ex230, g355, cap356, ex357, rfl, (St.selD 4 [3, 1, 0] rfl rfl (by decide) st380)⟩

end Go.Ped
