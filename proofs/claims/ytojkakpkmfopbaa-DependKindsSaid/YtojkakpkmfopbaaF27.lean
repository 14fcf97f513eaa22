/- The parts of the law's fixed program, from below. -/
import Derived.Test.YtojkakpkmfopbaaF26
set_option linter.unusedVariables false
set_option maxRecDepth 20000
namespace Go.Ped
open Go Go.Eng Go.RowKit Go.Proofs

theorem tb3 : (Try.prog.info? 3).map (·.bytes) = some 8 := by kernel_rfl
theorem tu106 : Try.prog.underlying 106 = some (.slice 3) := by kernel_rfl
theorem tb106 : (Try.prog.info? 106).map (·.bytes) = some 24 := by kernel_rfl
theorem tu107 : Try.prog.underlying 107 = some (.slice 106) := by kernel_rfl
theorem ts106 : sizeB Try.prog 106 = some 1 := by kernel_rfl
theorem tz106 : zeroB Try.prog 106 = some (.slice none 0 0) := by kernel_rfl
theorem tu108 : Try.prog.underlying 108 = some (.map 3 109) := by kernel_rfl
theorem tp109 : placesB Try.prog 109 = some [] := by kernel_rfl
theorem tz109 : zeroB Try.prog 109 = some (.agg #[]) := by kernel_rfl
theorem tu3 : Try.prog.underlying 3 = some (.int .i64) := by kernel_rfl
theorem ko3 : KeyOk Try.prog 3 (Value.int .i64) := keyOk_int tu3
theorem ta106 : aggB Try.prog 106 = some false := by kernel_rfl
set_option maxHeartbeats 8000000 in
theorem Parts_other {Z : Nat → Prop} {w0 w : World} {L : List Res} (st : St Z w0 w L) {rb : Nat} (hr : rRul.sl Z w0 (.slice (some ⟨rb, 0, none⟩) 2 2) otherR) : Calls Try.prog 20 #[(.agg #[(sl rb 2 2)])] w (Ret fun r w' => ∃ og oc ox p1 c1 e1 p2 c2 e2 p3 c3 e3, r = (sl og 3 oc) ∧ St Z w0 w' (Blk og 68 (cx [(sl p1 1 c1), (sl p2 1 c2), (sl p3 1 c3)] ox) :: Blk p1 9 (cx [(vs 120)] e1) :: Blk p2 9 (cx [(vs 121)] e2) :: Blk p3 9 (cx [(vs 122)] e3) :: L)) := by
 refine calls_of_WC (m := 153) (rs := [.tmp 2]) Try.func20 rfl rfl rfl rfl ?_
 refine Wsr ?_
 refine W1 (OpT.box st (.agg #[(sl rb 2 2)]) [(sl rb 2 2)] rfl rfl (fun b1 w2 st3 => ?_))
 refine W1 (OpT.assign vn rfl ?_)
 refine Wns ?_
 refine W1 (OpT.loadA ⟨b1, 0, none⟩ 1 [(sl rb 2 2)] ta27 ts27 rfl ((st3.rowB (i := 0) rfl).part 0 1) rfl ?_)
 refine W1 (OpT.callS cal35 [] [] [(.agg #[(sl rb 2 2)])] rfl (ca1 rfl) (draw_other st3 hr) ?_)
 rintro v11 w12 ⟨mb4, g5, cap6, ex7, g8, cap9, ex10, rfl, st13⟩
 refine W1 (OpT.assign (.map (some mb4)) rfl ?_)
 refine Wns ?_
 refine W1 (OpT.move (.map (some mb4)) rfl ?_)
 refine W1 (OpT.callS cal36 [] [] [(.map (some mb4))] rfl (ca1 rfl) (parts_other st13) ?_)
 rintro v27 w28 ⟨ib14, og15, oc16, ox17, p118, c119, e120, p221, c222, e223, p324, c325, e326, rfl, st29⟩
 refine W1 (OpT.move (.tuple #[(.map (some ib14)), (sl og15 3 oc16)]) rfl ?_)
 refine W1 (OpT.extract [(.map (some ib14)), (sl og15 3 oc16)] (.map (some ib14)) rfl rfl ?_)
 refine W1 (OpT.extract [(.map (some ib14)), (sl og15 3 oc16)] (sl og15 3 oc16) rfl rfl ?_)
 refine W1 (OpT.assign (.map (some ib14)) rfl ?_)
 refine W1 (OpT.assign (sl og15 3 oc16) rfl ?_)
 refine Wns ?_
 refine W1 (OpT.move (sl og15 3 oc16) rfl ?_)
 refine W1 (OpT.litV (v := (ni 3)) (v' := (ii 3)) rfl (fun hk => OpT.lenS _ 3 oc16 rfl tu74 rfl hk) ?_)
 refine W1 (OpT.makeSliceN 3 [(ii 0), (ii 0), (ii 0)] st29 tu106 ts3 tz3 tb3 rfl rfl (by kernel_rfl) (by decide) (by decide) (by decide) (fun b30 w31 st32 => ?_))
 refine W1 (OpT.assign (sl b30 3 3) rfl ?_)
 refine Wns ?_
 refine W1 (OpT.move (sl og15 3 oc16) rfl ?_)
 refine W1 (OpT.litV (v := (ni 3)) (v' := (ii 3)) rfl (fun hk => OpT.lenS _ 3 oc16 rfl tu74 rfl hk) ?_)
 refine W1 (OpT.makeSliceN 3 [vn, vn, vn] st32 tu107 ts106 tz106 tb106 rfl rfl (by kernel_rfl) (by decide) (by decide) (by decide) (fun b33 w34 st35 => ?_))
 refine W1 (OpT.assign (sl b33 3 3) rfl ?_)
 refine Wnt ?_
 refine WC.seq ?_
 refine Wsr ?_
 refine W1 (OpT.move (sl og15 3 oc16) rfl ?_)
 refine W1 (OpT.litV (v := (ni 3)) (v' := (ii 3)) rfl (fun hk => OpT.lenS _ 3 oc16 rfl tu74 rfl hk) ?_)
 refine W1 (OpT.move (ii 0) rfl ?_)
 refine Wnt ?_
 refine WC.block ?_
 refine WC.unroll 12 ?_
 refine UL.cut (fun r => r 3 = (.map (some mb4)) ∧ r 4 = (.map (some ib14)) ∧ r 5 = (sl og15 3 oc16) ∧ r 6 = (sl b30 3 3) ∧ r 7 = (sl b33 3 3) ∧ r 35 = (sl og15 3 oc16) ∧ r 36 = (ii 3) ∧ r 37 = (ii 0)) ⟨rfl, rfl, rfl, rfl, rfl, rfl, rfl, rfl⟩ ?_
 have st45 : St Z w0 w34 (Blk b33 106 [vn, vn, vn] :: Blk b30 3 [(ii 0), (ii 0), (ii 0)] :: Mp Value.string (Value.int .i64) ib14 ([((⟨#[120]⟩ : ByteArray), 0), ((⟨#[121]⟩ : ByteArray), 1), ((⟨#[122]⟩ : ByteArray), 2)] : List (ByteArray × Int)) :: Blk og15 68 (cx [(sl p118 1 c119), (sl p221 1 c222), (sl p324 1 c325)] ox17) :: Blk p118 9 (cx [(vs 120)] e120) :: Blk p221 9 (cx [(vs 121)] e223) :: Blk p324 9 (cx [(vs 122)] e326) :: Mp Value.string (fun v : Value => v) mb4 ([((⟨#[122]⟩ : ByteArray), (sl g5 2 cap6)), ((⟨#[121]⟩ : ByteArray), (sl g8 1 cap9)), ((⟨#[120]⟩ : ByteArray), vn)] : List (ByteArray × Value)) :: Blk g5 9 (cx [(vs 121), (vs 122)] ex7) :: Blk g8 9 (cx [(vs 120)] ex10) :: L) := (St.selD 11 [0, 1, 2, 3, 4, 5, 6, 7, 8, 9] rfl rfl (by decide) st35)
 intro ρ36 hI46
 refine UL.go ?_
 refine Wsr ?_
 refine W1 (OpT.lit (b := (decide ((0 : Int) < (3 : Int)))) (c := true) (by decide) (fun hk => OpT.ilt .i64 (0) (3) hI46.2.2.2.2.2.2.2 hI46.2.2.2.2.2.2.1 hk) ?_)
 refine Wnt ?_
 refine WC.seq ?_
 refine WC.condT rfl ?_
 refine WC.skip ?_
 refine thenQ_n ?_
 refine WC.seq ?_
 refine WC.block ?_
 refine Wsr ?_
 refine W1 (OpT.move (ii 0) hI46.2.2.2.2.2.2.2 ?_)
 refine W1 (OpT.idx 1 ⟨og15, 0, none⟩ ⟨og15, 0, none⟩ 3 oc16 .i64 0 tu74 ts68 hI46.2.2.2.2.2.1 hI46.2.2.2.2.2.2.2 (by decide) (by decide) rfl ?_)
 refine W1 (OpT.loadS ⟨og15, 0, none⟩ (sl p118 1 c119) ta68 rfl (st45.cellB (i := 3) rfl rfl) ?_)
 refine W1 (OpT.assign (ii 0) rfl ?_)
 refine W1 (OpT.assign (sl p118 1 c119) rfl ?_)
 refine Wns ?_
 refine W1 (OpT.makeMap (Value.int .i64) (fun _ : Unit => Value.agg #[]) st45 (fun b47 w48 st49 => ?_))
 refine W1 (OpT.assign (.map (some b47)) rfl ?_)
 refine Wnt ?_
 refine WC.seq ?_
 refine Wsr ?_
 refine W1 (OpT.move (sl p118 1 c119) rfl ?_)
 refine W1 (OpT.litV (v := (ni 1)) (v' := (ii 1)) rfl (fun hk => OpT.lenS _ 1 c119 rfl tu68 rfl hk) ?_)
 refine W1 (OpT.move (ii 0) rfl ?_)
 refine Wnt ?_
 refine WC.block ?_
 refine WC.unroll 12 ?_
 refine UL.cut (fun r => r 3 = (.map (some mb4)) ∧ r 4 = (.map (some ib14)) ∧ r 5 = (sl og15 3 oc16) ∧ r 6 = (sl b30 3 3) ∧ r 7 = (sl b33 3 3) ∧ r 8 = (ii 0) ∧ r 10 = (.map (some b47)) ∧ r 35 = (sl og15 3 oc16) ∧ r 36 = (ii 3) ∧ r 37 = (ii 0) ∧ r 43 = (sl p118 1 c119) ∧ r 44 = (ii 1) ∧ r 45 = (ii 0)) ⟨hI46.1, hI46.2.1, hI46.2.2.1, hI46.2.2.2.1, hI46.2.2.2.2.1, rfl, rfl, hI46.2.2.2.2.2.1, hI46.2.2.2.2.2.2.1, hI46.2.2.2.2.2.2.2, rfl, rfl, rfl⟩ ?_
 intro ρ50 hI64
 refine UL.go ?_
 refine Wsr ?_
 refine W1 (OpT.lit (b := (decide ((0 : Int) < (1 : Int)))) (c := true) (by decide) (fun hk => OpT.ilt .i64 (0) (1) hI64.2.2.2.2.2.2.2.2.2.2.2.2 hI64.2.2.2.2.2.2.2.2.2.2.2.1 hk) ?_)
 refine Wnt ?_
 refine WC.seq ?_
 refine WC.condT rfl ?_
 refine WC.skip ?_
 refine thenQ_n ?_
 refine WC.seq ?_
 refine WC.block ?_
 refine Wsr ?_
 refine W1 (OpT.idx 1 ⟨p118, 0, none⟩ ⟨p118, 0, none⟩ 1 c119 .i64 0 tu68 ts9 hI64.2.2.2.2.2.2.2.2.2.2.1 hI64.2.2.2.2.2.2.2.2.2.2.2.2 (by decide) (by decide) rfl ?_)
 refine W1 (OpT.loadS ⟨p118, 0, none⟩ (vs 120) ta9 rfl (st49.cellB (i := 5) rfl rfl) ?_)
 refine W1 (OpT.assign (vs 120) rfl ?_)
 refine Wns ?_
 refine W1 (OpT.move (.map (some mb4)) hI64.1 ?_)
 refine W1 (OpT.move (vs 120) rfl ?_)
 refine W1 (OpT.litV (v := ((mget ([((⟨#[122]⟩ : ByteArray), (sl g5 2 cap6)), ((⟨#[121]⟩ : ByteArray), (sl g8 1 cap9)), ((⟨#[120]⟩ : ByteArray), vn)] : List (ByteArray × Value)) (⟨#[120]⟩ : ByteArray)).getD vn)) (v' := vn) (by simp [mget_cons, mget_nil]) (fun hk => OpT.lookupV st49 8 rfl ko9 tu99 tz68 ((⟨#[120]⟩ : ByteArray)) rfl rfl hk) ?_)
 refine W1 (OpT.litV (v := (ni 0)) (v' := (ii 0)) rfl (fun hk => OpT.lenS none 0 0 rfl tu68 rfl hk) ?_)
 refine W1 (OpT.move (ii 0) rfl ?_)
 refine Wnt ?_
 refine WC.block ?_
 refine WC.unroll 12 ?_
 refine UL.cut (fun r => r 3 = (.map (some mb4)) ∧ r 4 = (.map (some ib14)) ∧ r 5 = (sl og15 3 oc16) ∧ r 6 = (sl b30 3 3) ∧ r 7 = (sl b33 3 3) ∧ r 8 = (ii 0) ∧ r 10 = (.map (some b47)) ∧ r 35 = (sl og15 3 oc16) ∧ r 36 = (ii 3) ∧ r 37 = (ii 0) ∧ r 43 = (sl p118 1 c119) ∧ r 44 = (ii 1) ∧ r 45 = (ii 0) ∧ r 51 = vn ∧ r 52 = (ii 0) ∧ r 53 = (ii 0)) ⟨hI64.1, hI64.2.1, hI64.2.2.1, hI64.2.2.2.1, hI64.2.2.2.2.1, hI64.2.2.2.2.2.1, hI64.2.2.2.2.2.2.1, hI64.2.2.2.2.2.2.2.1, hI64.2.2.2.2.2.2.2.2.1, hI64.2.2.2.2.2.2.2.2.2.1, hI64.2.2.2.2.2.2.2.2.2.2.1, hI64.2.2.2.2.2.2.2.2.2.2.2.1, hI64.2.2.2.2.2.2.2.2.2.2.2.2, rfl, rfl, rfl⟩ ?_
 intro ρ65 hI82
 refine UL.go ?_
 refine Wsr ?_
 refine W1 (OpT.lit (b := (decide ((0 : Int) < (0 : Int)))) (c := false) (by decide) (fun hk => OpT.ilt .i64 (0) (0) hI82.2.2.2.2.2.2.2.2.2.2.2.2.2.2.2 hI82.2.2.2.2.2.2.2.2.2.2.2.2.2.2.1 hk) ?_)
 refine Wnt ?_
 refine WC.seq ?_
 refine WC.condF rfl ?_
 refine WC.exit ?_
 refine thenQ_x ?_
 refine unrQ_x ?_
 refine blkQ_hit ?_
 refine blkQ_n ?_
 refine thenQ_n ?_
 refine WC.region ?_
 refine W1 (OpT.iadd .i64 (0) (1) (1) hI82.2.2.2.2.2.2.2.2.2.2.2.2.1 rfl (by decide) ?_)
 refine W1 (OpT.move (ii 1) rfl ?_)
 refine WL.nil ?_
 refine unrQ_n ?_
 refine UL.cut (fun r => r 3 = (.map (some mb4)) ∧ r 4 = (.map (some ib14)) ∧ r 5 = (sl og15 3 oc16) ∧ r 6 = (sl b30 3 3) ∧ r 7 = (sl b33 3 3) ∧ r 8 = (ii 0) ∧ r 10 = (.map (some b47)) ∧ r 35 = (sl og15 3 oc16) ∧ r 36 = (ii 3) ∧ r 37 = (ii 0) ∧ r 43 = (sl p118 1 c119) ∧ r 44 = (ii 1) ∧ r 45 = (ii 1)) ⟨hI82.1, hI82.2.1, hI82.2.2.1, hI82.2.2.2.1, hI82.2.2.2.2.1, hI82.2.2.2.2.2.1, hI82.2.2.2.2.2.2.1, hI82.2.2.2.2.2.2.2.1, hI82.2.2.2.2.2.2.2.2.1, hI82.2.2.2.2.2.2.2.2.2.1, hI82.2.2.2.2.2.2.2.2.2.2.1, hI82.2.2.2.2.2.2.2.2.2.2.2.1, rfl⟩ ?_
 intro ρ83 hI97
 refine UL.go ?_
 refine Wsr ?_
 refine W1 (OpT.lit (b := (decide ((1 : Int) < (1 : Int)))) (c := false) (by decide) (fun hk => OpT.ilt .i64 (1) (1) hI97.2.2.2.2.2.2.2.2.2.2.2.2 hI97.2.2.2.2.2.2.2.2.2.2.2.1 hk) ?_)
 refine Wnt ?_
 refine WC.seq ?_
 refine WC.condF rfl ?_
 refine WC.exit ?_
 refine thenQ_x ?_
 refine unrQ_x ?_
 refine blkQ_hit ?_
 refine thenQ_n ?_
 refine Wsr ?_
 refine W1 (OpT.move (sl b30 3 3) hI97.2.2.2.1 ?_)
 refine W1 (OpT.move (ii 0) hI97.2.2.2.2.2.1 ?_)
 refine W1 (OpT.move (.map (some b47)) hI97.2.2.2.2.2.2.1 ?_)
 refine W1 (OpT.litV (v := (ni 0)) (v' := (ii 0)) rfl (fun hk => OpT.lenMap st49 0 rfl rfl tu108 rfl hk) ?_)
 refine W1 (OpT.idx 1 ⟨b30, 0, none⟩ ⟨b30, 0, none⟩ 3 3 .i64 0 tu106 ts3 rfl rfl (by decide) (by decide) rfl ?_)
 refine WL.stepN (OpT.storeS st49 2 (ii 0) rfl ts3 rfl rfl rfl rfl rfl (fun w98 st99 => ?_))
 refine Wns ?_
 refine W1 (OpT.move (.map (some b47)) hI97.2.2.2.2.2.2.1 ?_)
 have st103 : St Z w0 w98 (Mp (Value.int .i64) (fun _ : Unit => Value.agg #[]) b47 ([] : List (Int × Unit)) :: Blk b33 106 [vn, vn, vn] :: Blk b30 3 [(ii 0), (ii 0), (ii 0)] :: Mp Value.string (Value.int .i64) ib14 ([((⟨#[120]⟩ : ByteArray), 0), ((⟨#[121]⟩ : ByteArray), 1), ((⟨#[122]⟩ : ByteArray), 2)] : List (ByteArray × Int)) :: Blk og15 68 (cx [(sl p118 1 c119), (sl p221 1 c222), (sl p324 1 c325)] ox17) :: Blk p118 9 (cx [(vs 120)] e120) :: Blk p221 9 (cx [(vs 121)] e223) :: Blk p324 9 (cx [(vs 122)] e326) :: Mp Value.string (fun v : Value => v) mb4 ([((⟨#[122]⟩ : ByteArray), (sl g5 2 cap6)), ((⟨#[121]⟩ : ByteArray), (sl g8 1 cap9)), ((⟨#[120]⟩ : ByteArray), vn)] : List (ByteArray × Value)) :: Blk g5 9 (cx [(vs 121), (vs 122)] ex7) :: Blk g8 9 (cx [(vs 120)] ex10) :: L) := st99
 refine W1 (OpT.range st103 tu108 rfl (fun r100 w101 st102 => ?_))
 refine Wnt ?_
 refine WC.block ?_
 refine WC.unroll 12 ?_
 refine UL.cut (fun r => r 3 = (.map (some mb4)) ∧ r 4 = (.map (some ib14)) ∧ r 5 = (sl og15 3 oc16) ∧ r 6 = (sl b30 3 3) ∧ r 7 = (sl b33 3 3) ∧ r 8 = (ii 0) ∧ r 35 = (sl og15 3 oc16) ∧ r 36 = (ii 3) ∧ r 37 = (ii 0) ∧ r 75 = (pt r100 0)) ⟨hI97.1, hI97.2.1, hI97.2.2.1, hI97.2.2.2.1, hI97.2.2.2.2.1, hI97.2.2.2.2.2.1, hI97.2.2.2.2.2.2.2.1, hI97.2.2.2.2.2.2.2.2.1, hI97.2.2.2.2.2.2.2.2.2.1, rfl⟩ ?_
 intro ρ104 hI115
 refine UL.go ?_
 refine Wsr ?_
 refine W1 (OpT.next st102 hI115.2.2.2.2.2.2.2.2.2 (fun _ => ?_) (fun A p B w hl _ => absurd hl (by simp)))
 have st116 := st102.endIt
 replace st116 : St Z w0 w101 (Mp (Value.int .i64) (fun _ : Unit => Value.agg #[]) b47 ([] : List (Int × Unit)) :: Blk b33 106 [vn, vn, vn] :: Blk b30 3 [(ii 0), (ii 0), (ii 0)] :: Mp Value.string (Value.int .i64) ib14 ([((⟨#[120]⟩ : ByteArray), 0), ((⟨#[121]⟩ : ByteArray), 1), ((⟨#[122]⟩ : ByteArray), 2)] : List (ByteArray × Int)) :: Blk og15 68 (cx [(sl p118 1 c119), (sl p221 1 c222), (sl p324 1 c325)] ox17) :: Blk p118 9 (cx [(vs 120)] e120) :: Blk p221 9 (cx [(vs 121)] e223) :: Blk p324 9 (cx [(vs 122)] e326) :: Mp Value.string (fun v : Value => v) mb4 ([((⟨#[122]⟩ : ByteArray), (sl g5 2 cap6)), ((⟨#[121]⟩ : ByteArray), (sl g8 1 cap9)), ((⟨#[120]⟩ : ByteArray), vn)] : List (ByteArray × Value)) :: Blk g5 9 (cx [(vs 121), (vs 122)] ex7) :: Blk g8 9 (cx [(vs 120)] ex10) :: L) := st116
 refine W1 (OpT.extract [(.bool false)] (.bool false) rfl rfl ?_)
 refine Wnt ?_
 refine WC.seq ?_
 refine WC.condF rfl ?_
 refine WC.exit ?_
 refine thenQ_x ?_
 refine unrQ_x ?_
 refine blkQ_hit ?_
 refine blkQ_n ?_
 refine thenQ_n ?_
 refine WC.region ?_
 refine W1 (OpT.iadd .i64 (0) (1) (1) hI115.2.2.2.2.2.2.2.2.1 rfl (by decide) ?_)
 refine W1 (OpT.move (ii 1) rfl ?_)
 refine WL.nil ?_
 refine unrQ_n ?_
 refine UL.cut (fun r => r 3 = (.map (some mb4)) ∧ r 4 = (.map (some ib14)) ∧ r 5 = (sl og15 3 oc16) ∧ r 6 = (sl b30 3 3) ∧ r 7 = (sl b33 3 3) ∧ r 35 = (sl og15 3 oc16) ∧ r 36 = (ii 3) ∧ r 37 = (ii 1)) ⟨hI115.1, hI115.2.1, hI115.2.2.1, hI115.2.2.2.1, hI115.2.2.2.2.1, hI115.2.2.2.2.2.2.1, hI115.2.2.2.2.2.2.2.1, rfl⟩ ?_
 have st126 : St Z w0 w101 (Blk b33 106 [vn, vn, vn] :: Blk b30 3 [(ii 0), (ii 0), (ii 0)] :: Mp Value.string (Value.int .i64) ib14 ([((⟨#[120]⟩ : ByteArray), 0), ((⟨#[121]⟩ : ByteArray), 1), ((⟨#[122]⟩ : ByteArray), 2)] : List (ByteArray × Int)) :: Blk og15 68 (cx [(sl p118 1 c119), (sl p221 1 c222), (sl p324 1 c325)] ox17) :: Blk p118 9 (cx [(vs 120)] e120) :: Blk p221 9 (cx [(vs 121)] e223) :: Blk p324 9 (cx [(vs 122)] e326) :: Mp Value.string (fun v : Value => v) mb4 ([((⟨#[122]⟩ : ByteArray), (sl g5 2 cap6)), ((⟨#[121]⟩ : ByteArray), (sl g8 1 cap9)), ((⟨#[120]⟩ : ByteArray), vn)] : List (ByteArray × Value)) :: Blk g5 9 (cx [(vs 121), (vs 122)] ex7) :: Blk g8 9 (cx [(vs 120)] ex10) :: L) := (St.selD 11 [1, 2, 3, 4, 5, 6, 7, 8, 9, 10] rfl rfl (by decide) st116)
 intro ρ117 hI127
 refine UL.go ?_
 refine Wsr ?_
 refine W1 (OpT.lit (b := (decide ((1 : Int) < (3 : Int)))) (c := true) (by decide) (fun hk => OpT.ilt .i64 (1) (3) hI127.2.2.2.2.2.2.2 hI127.2.2.2.2.2.2.1 hk) ?_)
 refine Wnt ?_
 refine WC.seq ?_
 refine WC.condT rfl ?_
 refine WC.skip ?_
 refine thenQ_n ?_
 refine WC.seq ?_
 refine WC.block ?_
 refine Wsr ?_
 refine W1 (OpT.move (ii 1) hI127.2.2.2.2.2.2.2 ?_)
 refine W1 (OpT.idx 1 ⟨og15, 0, none⟩ ⟨og15, 1, none⟩ 3 oc16 .i64 1 tu74 ts68 hI127.2.2.2.2.2.1 hI127.2.2.2.2.2.2.2 (by decide) (by decide) rfl ?_)
 refine W1 (OpT.loadS ⟨og15, 1, none⟩ (sl p221 1 c222) ta68 rfl (st126.cellB (i := 3) rfl rfl) ?_)
 refine W1 (OpT.assign (ii 1) rfl ?_)
 refine W1 (OpT.assign (sl p221 1 c222) rfl ?_)
 refine Wns ?_
 refine W1 (OpT.makeMap (Value.int .i64) (fun _ : Unit => Value.agg #[]) st126 (fun b128 w129 st130 => ?_))
 refine W1 (OpT.assign (.map (some b128)) rfl ?_)
 refine Wnt ?_
 refine WC.seq ?_
 refine Wsr ?_
 refine W1 (OpT.move (sl p221 1 c222) rfl ?_)
 refine W1 (OpT.litV (v := (ni 1)) (v' := (ii 1)) rfl (fun hk => OpT.lenS _ 1 c222 rfl tu68 rfl hk) ?_)
 refine W1 (OpT.move (ii 0) rfl ?_)
 refine Wnt ?_
 refine WC.block ?_
 refine WC.unroll 12 ?_
 refine UL.cut (fun r => r 3 = (.map (some mb4)) ∧ r 4 = (.map (some ib14)) ∧ r 5 = (sl og15 3 oc16) ∧ r 6 = (sl b30 3 3) ∧ r 7 = (sl b33 3 3) ∧ r 8 = (ii 1) ∧ r 10 = (.map (some b128)) ∧ r 35 = (sl og15 3 oc16) ∧ r 36 = (ii 3) ∧ r 37 = (ii 1) ∧ r 43 = (sl p221 1 c222) ∧ r 44 = (ii 1) ∧ r 45 = (ii 0)) ⟨hI127.1, hI127.2.1, hI127.2.2.1, hI127.2.2.2.1, hI127.2.2.2.2.1, rfl, rfl, hI127.2.2.2.2.2.1, hI127.2.2.2.2.2.2.1, hI127.2.2.2.2.2.2.2, rfl, rfl, rfl⟩ ?_
 intro ρ131 hI145
 refine UL.go ?_
 refine Wsr ?_
 refine W1 (OpT.lit (b := (decide ((0 : Int) < (1 : Int)))) (c := true) (by decide) (fun hk => OpT.ilt .i64 (0) (1) hI145.2.2.2.2.2.2.2.2.2.2.2.2 hI145.2.2.2.2.2.2.2.2.2.2.2.1 hk) ?_)
 refine Wnt ?_
 refine WC.seq ?_
 refine WC.condT rfl ?_
 refine WC.skip ?_
 refine thenQ_n ?_
 refine WC.seq ?_
 refine WC.block ?_
 refine Wsr ?_
 refine W1 (OpT.idx 1 ⟨p221, 0, none⟩ ⟨p221, 0, none⟩ 1 c222 .i64 0 tu68 ts9 hI145.2.2.2.2.2.2.2.2.2.2.1 hI145.2.2.2.2.2.2.2.2.2.2.2.2 (by decide) (by decide) rfl ?_)
 refine W1 (OpT.loadS ⟨p221, 0, none⟩ (vs 121) ta9 rfl (st130.cellB (i := 6) rfl rfl) ?_)
 refine W1 (OpT.assign (vs 121) rfl ?_)
 refine Wns ?_
 refine W1 (OpT.move (.map (some mb4)) hI145.1 ?_)
 refine W1 (OpT.move (vs 121) rfl ?_)
 refine W1 (OpT.litV (v := ((mget ([((⟨#[122]⟩ : ByteArray), (sl g5 2 cap6)), ((⟨#[121]⟩ : ByteArray), (sl g8 1 cap9)), ((⟨#[120]⟩ : ByteArray), vn)] : List (ByteArray × Value)) (⟨#[121]⟩ : ByteArray)).getD vn)) (v' := (sl g8 1 cap9)) (by simp [mget_cons, mget_nil]) (fun hk => OpT.lookupV st130 8 rfl ko9 tu99 tz68 ((⟨#[121]⟩ : ByteArray)) rfl rfl hk) ?_)
 refine W1 (OpT.litV (v := (ni 1)) (v' := (ii 1)) rfl (fun hk => OpT.lenS _ 1 cap9 rfl tu68 rfl hk) ?_)
 refine W1 (OpT.move (ii 0) rfl ?_)
 refine Wnt ?_
 refine WC.block ?_
 refine WC.unroll 12 ?_
 refine UL.cut (fun r => r 3 = (.map (some mb4)) ∧ r 4 = (.map (some ib14)) ∧ r 5 = (sl og15 3 oc16) ∧ r 6 = (sl b30 3 3) ∧ r 7 = (sl b33 3 3) ∧ r 8 = (ii 1) ∧ r 10 = (.map (some b128)) ∧ r 35 = (sl og15 3 oc16) ∧ r 36 = (ii 3) ∧ r 37 = (ii 1) ∧ r 43 = (sl p221 1 c222) ∧ r 44 = (ii 1) ∧ r 45 = (ii 0) ∧ r 51 = (sl g8 1 cap9) ∧ r 52 = (ii 1) ∧ r 53 = (ii 0)) ⟨hI145.1, hI145.2.1, hI145.2.2.1, hI145.2.2.2.1, hI145.2.2.2.2.1, hI145.2.2.2.2.2.1, hI145.2.2.2.2.2.2.1, hI145.2.2.2.2.2.2.2.1, hI145.2.2.2.2.2.2.2.2.1, hI145.2.2.2.2.2.2.2.2.2.1, hI145.2.2.2.2.2.2.2.2.2.2.1, hI145.2.2.2.2.2.2.2.2.2.2.2.1, hI145.2.2.2.2.2.2.2.2.2.2.2.2, rfl, rfl, rfl⟩ ?_
 intro ρ146 hI163
 refine UL.go ?_
 refine Wsr ?_
 refine W1 (OpT.lit (b := (decide ((0 : Int) < (1 : Int)))) (c := true) (by decide) (fun hk => OpT.ilt .i64 (0) (1) hI163.2.2.2.2.2.2.2.2.2.2.2.2.2.2.2 hI163.2.2.2.2.2.2.2.2.2.2.2.2.2.2.1 hk) ?_)
 refine Wnt ?_
 refine WC.seq ?_
 refine WC.condT rfl ?_
 refine WC.skip ?_
 refine thenQ_n ?_
 refine WC.seq ?_
 refine WC.block ?_
 refine Wsr ?_
 refine W1 (OpT.idx 1 ⟨g8, 0, none⟩ ⟨g8, 0, none⟩ 1 cap9 .i64 0 tu68 ts9 hI163.2.2.2.2.2.2.2.2.2.2.2.2.2.1 hI163.2.2.2.2.2.2.2.2.2.2.2.2.2.2.2 (by decide) (by decide) rfl ?_)
 refine W1 (OpT.loadS ⟨g8, 0, none⟩ (vs 120) ta9 rfl (st130.cellB (i := 10) rfl rfl) ?_)
 refine W1 (OpT.assign (vs 120) rfl ?_)
 refine Wns ?_
 refine W1 (OpT.move (.map (some ib14)) hI163.2.1 ?_)
 refine W1 (OpT.move (vs 120) rfl ?_)
 refine W1 (OpT.litV (v := (.int .i64 (((mget ([((⟨#[120]⟩ : ByteArray), 0), ((⟨#[121]⟩ : ByteArray), 1), ((⟨#[122]⟩ : ByteArray), 2)] : List (ByteArray × Int)) (⟨#[120]⟩ : ByteArray)).getD 0)))) (v' := (ii 0)) (by simp [mget_cons, mget_nil]) (fun hk => OpT.lookupI st130 3 rfl ko9 tu81 tz3 ((⟨#[120]⟩ : ByteArray)) rfl rfl hk) ?_)
 refine W1 (OpT.move (ii 1) hI163.2.2.2.2.2.1 ?_)
 refine W1 (OpT.lit (b := (decide ((0 : Int) ≠ (1 : Int)))) (c := true) (by decide) (fun hk => OpT.ine .i64 (0) (1) rfl rfl hk) ?_)
 refine Wnt ?_
 refine WC.condT rfl ?_
 refine WC.region ?_
 refine W1 (OpT.move (.map (some b128)) hI163.2.2.2.2.2.2.1 ?_)
 refine W1 (OpT.move (.map (some ib14)) hI163.2.1 ?_)
 refine W1 (OpT.move (vs 120) rfl ?_)
 refine W1 (OpT.litV (v := (.int .i64 (((mget ([((⟨#[120]⟩ : ByteArray), 0), ((⟨#[121]⟩ : ByteArray), 1), ((⟨#[122]⟩ : ByteArray), 2)] : List (ByteArray × Int)) (⟨#[120]⟩ : ByteArray)).getD 0)))) (v' := (ii 0)) (by simp [mget_cons, mget_nil]) (fun hk => OpT.lookupI st130 3 rfl ko9 tu81 tz3 ((⟨#[120]⟩ : ByteArray)) rfl rfl hk) ?_)
 refine W1 (OpT.build [] [] tz109 tp109 mp0 rfl ?_)
 have e166 : mset ([] : List (Int × Unit)) 0 () = ([(0, ())] : List (Int × Unit)) := by simp [mset_cons, mset_nil]
 refine WL.stepN (OpT.mapSet st130 0 rfl ko3 tu108 (0) (()) rfl rfl rfl (fun w164 st165 => ?_))
 rw [e166] at st165
 refine WL.nil ?_
 refine blkQ_n ?_
 refine thenQ_n ?_
 refine WC.region ?_
 refine W1 (OpT.iadd .i64 (0) (1) (1) hI163.2.2.2.2.2.2.2.2.2.2.2.2.2.2.2 rfl (by decide) ?_)
 refine W1 (OpT.move (ii 1) rfl ?_)
 refine WL.nil ?_
 refine unrQ_n ?_
 refine UL.cut (fun r => r 3 = (.map (some mb4)) ∧ r 4 = (.map (some ib14)) ∧ r 5 = (sl og15 3 oc16) ∧ r 6 = (sl b30 3 3) ∧ r 7 = (sl b33 3 3) ∧ r 8 = (ii 1) ∧ r 10 = (.map (some b128)) ∧ r 35 = (sl og15 3 oc16) ∧ r 36 = (ii 3) ∧ r 37 = (ii 1) ∧ r 43 = (sl p221 1 c222) ∧ r 44 = (ii 1) ∧ r 45 = (ii 0) ∧ r 51 = (sl g8 1 cap9) ∧ r 52 = (ii 1) ∧ r 53 = (ii 1)) ⟨hI163.1, hI163.2.1, hI163.2.2.1, hI163.2.2.2.1, hI163.2.2.2.2.1, hI163.2.2.2.2.2.1, hI163.2.2.2.2.2.2.1, hI163.2.2.2.2.2.2.2.1, hI163.2.2.2.2.2.2.2.2.1, hI163.2.2.2.2.2.2.2.2.2.1, hI163.2.2.2.2.2.2.2.2.2.2.1, hI163.2.2.2.2.2.2.2.2.2.2.2.1, hI163.2.2.2.2.2.2.2.2.2.2.2.2.1, hI163.2.2.2.2.2.2.2.2.2.2.2.2.2.1, hI163.2.2.2.2.2.2.2.2.2.2.2.2.2.2.1, rfl⟩ ?_
 intro ρ167 hI184
 refine UL.go ?_
 refine Wsr ?_
 refine W1 (OpT.lit (b := (decide ((1 : Int) < (1 : Int)))) (c := false) (by decide) (fun hk => OpT.ilt .i64 (1) (1) hI184.2.2.2.2.2.2.2.2.2.2.2.2.2.2.2 hI184.2.2.2.2.2.2.2.2.2.2.2.2.2.2.1 hk) ?_)
 refine Wnt ?_
 refine WC.seq ?_
 refine WC.condF rfl ?_
 refine WC.exit ?_
 refine thenQ_x ?_
 refine unrQ_x ?_
 refine blkQ_hit ?_
 refine blkQ_n ?_
 refine thenQ_n ?_
 refine WC.region ?_
 refine W1 (OpT.iadd .i64 (0) (1) (1) hI184.2.2.2.2.2.2.2.2.2.2.2.2.1 rfl (by decide) ?_)
 refine W1 (OpT.move (ii 1) rfl ?_)
 refine WL.nil ?_
 refine unrQ_n ?_
 refine UL.cut (fun r => r 3 = (.map (some mb4)) ∧ r 4 = (.map (some ib14)) ∧ r 5 = (sl og15 3 oc16) ∧ r 6 = (sl b30 3 3) ∧ r 7 = (sl b33 3 3) ∧ r 8 = (ii 1) ∧ r 10 = (.map (some b128)) ∧ r 35 = (sl og15 3 oc16) ∧ r 36 = (ii 3) ∧ r 37 = (ii 1) ∧ r 43 = (sl p221 1 c222) ∧ r 44 = (ii 1) ∧ r 45 = (ii 1)) ⟨hI184.1, hI184.2.1, hI184.2.2.1, hI184.2.2.2.1, hI184.2.2.2.2.1, hI184.2.2.2.2.2.1, hI184.2.2.2.2.2.2.1, hI184.2.2.2.2.2.2.2.1, hI184.2.2.2.2.2.2.2.2.1, hI184.2.2.2.2.2.2.2.2.2.1, hI184.2.2.2.2.2.2.2.2.2.2.1, hI184.2.2.2.2.2.2.2.2.2.2.2.1, rfl⟩ ?_
 intro ρ185 hI199
 refine UL.go ?_
 refine Wsr ?_
 refine W1 (OpT.lit (b := (decide ((1 : Int) < (1 : Int)))) (c := false) (by decide) (fun hk => OpT.ilt .i64 (1) (1) hI199.2.2.2.2.2.2.2.2.2.2.2.2 hI199.2.2.2.2.2.2.2.2.2.2.2.1 hk) ?_)
 refine Wnt ?_
 refine WC.seq ?_
 refine WC.condF rfl ?_
 refine WC.exit ?_
 refine thenQ_x ?_
 refine unrQ_x ?_
 refine blkQ_hit ?_
 refine thenQ_n ?_
 refine Wsr ?_
 refine W1 (OpT.move (sl b30 3 3) hI199.2.2.2.1 ?_)
 refine W1 (OpT.move (ii 1) hI199.2.2.2.2.2.1 ?_)
 refine W1 (OpT.move (.map (some b128)) hI199.2.2.2.2.2.2.1 ?_)
 refine W1 (OpT.litV (v := (ni 1)) (v' := (ii 1)) rfl (fun hk => OpT.lenMap st165 0 rfl rfl tu108 rfl hk) ?_)
 refine W1 (OpT.idx 1 ⟨b30, 0, none⟩ ⟨b30, 1, none⟩ 3 3 .i64 1 tu106 ts3 rfl rfl (by decide) (by decide) rfl ?_)
 refine WL.stepN (OpT.storeS st165 2 (ii 1) rfl ts3 rfl rfl rfl rfl rfl (fun w200 st201 => ?_))
 refine Wns ?_
 refine W1 (OpT.move (.map (some b128)) hI199.2.2.2.2.2.2.1 ?_)
 have st205 : St Z w0 w200 (Mp (Value.int .i64) (fun _ : Unit => Value.agg #[]) b128 ([(0, ())] : List (Int × Unit)) :: Blk b33 106 [vn, vn, vn] :: Blk b30 3 [(ii 0), (ii 1), (ii 0)] :: Mp Value.string (Value.int .i64) ib14 ([((⟨#[120]⟩ : ByteArray), 0), ((⟨#[121]⟩ : ByteArray), 1), ((⟨#[122]⟩ : ByteArray), 2)] : List (ByteArray × Int)) :: Blk og15 68 (cx [(sl p118 1 c119), (sl p221 1 c222), (sl p324 1 c325)] ox17) :: Blk p118 9 (cx [(vs 120)] e120) :: Blk p221 9 (cx [(vs 121)] e223) :: Blk p324 9 (cx [(vs 122)] e326) :: Mp Value.string (fun v : Value => v) mb4 ([((⟨#[122]⟩ : ByteArray), (sl g5 2 cap6)), ((⟨#[121]⟩ : ByteArray), (sl g8 1 cap9)), ((⟨#[120]⟩ : ByteArray), vn)] : List (ByteArray × Value)) :: Blk g5 9 (cx [(vs 121), (vs 122)] ex7) :: Blk g8 9 (cx [(vs 120)] ex10) :: L) := st201
 refine W1 (OpT.range st205 tu108 rfl (fun r202 w203 st204 => ?_))
 refine Wnt ?_
 refine WC.block ?_
 refine WC.unroll 12 ?_
 refine UL.cut (fun r => r 3 = (.map (some mb4)) ∧ r 4 = (.map (some ib14)) ∧ r 5 = (sl og15 3 oc16) ∧ r 6 = (sl b30 3 3) ∧ r 7 = (sl b33 3 3) ∧ r 8 = (ii 1) ∧ r 35 = (sl og15 3 oc16) ∧ r 36 = (ii 3) ∧ r 37 = (ii 1) ∧ r 75 = (pt r202 0)) ⟨hI199.1, hI199.2.1, hI199.2.2.1, hI199.2.2.2.1, hI199.2.2.2.2.1, hI199.2.2.2.2.2.1, hI199.2.2.2.2.2.2.2.1, hI199.2.2.2.2.2.2.2.2.1, hI199.2.2.2.2.2.2.2.2.2.1, rfl⟩ ?_
 intro ρ206 hI217
 refine UL.go ?_
 refine Wsr ?_
 refine W1 (OpT.next st204 hI217.2.2.2.2.2.2.2.2.2 (fun h => absurd h (by simp)) ?_)
 rintro A p B w218 hl st219
 obtain ⟨rfl, rfl, rfl⟩ := one_left hl
 replace st219 : St Z w0 w218 (MpIt (Value.int .i64) (fun _ : Unit => Value.agg #[]) b128 r202 ([(0, ())] : List (Int × Unit)) [] (some (0, ())) :: Blk b33 106 [vn, vn, vn] :: Blk b30 3 [(ii 0), (ii 1), (ii 0)] :: Mp Value.string (Value.int .i64) ib14 ([((⟨#[120]⟩ : ByteArray), 0), ((⟨#[121]⟩ : ByteArray), 1), ((⟨#[122]⟩ : ByteArray), 2)] : List (ByteArray × Int)) :: Blk og15 68 (cx [(sl p118 1 c119), (sl p221 1 c222), (sl p324 1 c325)] ox17) :: Blk p118 9 (cx [(vs 120)] e120) :: Blk p221 9 (cx [(vs 121)] e223) :: Blk p324 9 (cx [(vs 122)] e326) :: Mp Value.string (fun v : Value => v) mb4 ([((⟨#[122]⟩ : ByteArray), (sl g5 2 cap6)), ((⟨#[121]⟩ : ByteArray), (sl g8 1 cap9)), ((⟨#[120]⟩ : ByteArray), vn)] : List (ByteArray × Value)) :: Blk g5 9 (cx [(vs 121), (vs 122)] ex7) :: Blk g8 9 (cx [(vs 120)] ex10) :: L) := st219
 refine W1 (OpT.extract [(.bool true), (ii 0), (.agg #[])] (.bool true) rfl rfl ?_)
 refine Wnt ?_
 refine WC.seq ?_
 refine WC.condT rfl ?_
 refine WC.skip ?_
 refine thenQ_n ?_
 refine WC.block ?_
 refine Wsr ?_
 refine W1 (OpT.entry st219 hI217.2.2.2.2.2.2.2.2.2 ?_)
 refine W1 (OpT.extract [(ii 0), (.agg #[])] (ii 0) rfl rfl ?_)
 refine W1 (OpT.assign (ii 0) rfl ?_)
 refine Wnr ?_
 refine W1 (OpT.move (sl b33 3 3) hI217.2.2.2.2.1 ?_)
 refine W1 (OpT.move (ii 0) rfl ?_)
 refine W1 (OpT.move (sl b33 3 3) hI217.2.2.2.2.1 ?_)
 refine W1 (OpT.move (ii 0) rfl ?_)
 refine W1 (OpT.idx 1 ⟨b33, 0, none⟩ ⟨b33, 0, none⟩ 3 3 .i64 0 tu107 ts106 rfl rfl (by decide) (by decide) rfl ?_)
 refine W1 (OpT.loadS ⟨b33, 0, none⟩ vn ta106 rfl (st219.cellB (i := 1) rfl rfl) ?_)
 refine W1 (OpT.move (ii 1) hI217.2.2.2.2.2.1 ?_)
 refine W1 (OpT.buildSlice st219 [(0, (ii 1))] [(ii 1)] tu106 ts3 tz3 (mp1 rfl) (by kernel_rfl) (by decide) (fun b220 w221 st222 => ?_))
 have st223 := St.rowNil 3 1 (st222 : St Z w0 w221 (Blk b220 3 [(ii 1)] :: MpIt (Value.int .i64) (fun _ : Unit => Value.agg #[]) b128 r202 ([(0, ())] : List (Int × Unit)) [] (some (0, ())) :: Blk b33 106 [vn, vn, vn] :: Blk b30 3 [(ii 0), (ii 1), (ii 0)] :: Mp Value.string (Value.int .i64) ib14 ([((⟨#[120]⟩ : ByteArray), 0), ((⟨#[121]⟩ : ByteArray), 1), ((⟨#[122]⟩ : ByteArray), 2)] : List (ByteArray × Int)) :: Blk og15 68 (cx [(sl p118 1 c119), (sl p221 1 c222), (sl p324 1 c325)] ox17) :: Blk p118 9 (cx [(vs 120)] e120) :: Blk p221 9 (cx [(vs 121)] e223) :: Blk p324 9 (cx [(vs 122)] e326) :: Mp Value.string (fun v : Value => v) mb4 ([((⟨#[122]⟩ : ByteArray), (sl g5 2 cap6)), ((⟨#[121]⟩ : ByteArray), (sl g8 1 cap9)), ((⟨#[120]⟩ : ByteArray), vn)] : List (ByteArray × Value)) :: Blk g5 9 (cx [(vs 121), (vs 122)] ex7) :: Blk g8 9 (cx [(vs 120)] ex10) :: L))
 have st224 : St Z w0 w221 (Blk b220 3 [(ii 1)] :: Row 3 1 vn 0 [] :: MpIt (Value.int .i64) (fun _ : Unit => Value.agg #[]) b128 r202 ([(0, ())] : List (Int × Unit)) [] (some (0, ())) :: Blk b33 106 [vn, vn, vn] :: Blk b30 3 [(ii 0), (ii 1), (ii 0)] :: Mp Value.string (Value.int .i64) ib14 ([((⟨#[120]⟩ : ByteArray), 0), ((⟨#[121]⟩ : ByteArray), 1), ((⟨#[122]⟩ : ByteArray), 2)] : List (ByteArray × Int)) :: Blk og15 68 (cx [(sl p118 1 c119), (sl p221 1 c222), (sl p324 1 c325)] ox17) :: Blk p118 9 (cx [(vs 120)] e120) :: Blk p221 9 (cx [(vs 121)] e223) :: Blk p324 9 (cx [(vs 122)] e326) :: Mp Value.string (fun v : Value => v) mb4 ([((⟨#[122]⟩ : ByteArray), (sl g5 2 cap6)), ((⟨#[121]⟩ : ByteArray), (sl g8 1 cap9)), ((⟨#[120]⟩ : ByteArray), vn)] : List (ByteArray × Value)) :: Blk g5 9 (cx [(vs 121), (vs 122)] ex7) :: Blk g8 9 (cx [(vs 120)] ex10) :: L) := St.selT [Row 3 1 vn 0 [], Blk b220 3 [(ii 1)], MpIt (Value.int .i64) (fun _ : Unit => Value.agg #[]) b128 r202 ([(0, ())] : List (Int × Unit)) [] (some (0, ())), Blk b33 106 [vn, vn, vn], Blk b30 3 [(ii 0), (ii 1), (ii 0)], Mp Value.string (Value.int .i64) ib14 ([((⟨#[120]⟩ : ByteArray), 0), ((⟨#[121]⟩ : ByteArray), 1), ((⟨#[122]⟩ : ByteArray), 2)] : List (ByteArray × Int)), Blk og15 68 (cx [(sl p118 1 c119), (sl p221 1 c222), (sl p324 1 c325)] ox17), Blk p118 9 (cx [(vs 120)] e120), Blk p221 9 (cx [(vs 121)] e223), Blk p324 9 (cx [(vs 122)] e326), Mp Value.string (fun v : Value => v) mb4 ([((⟨#[122]⟩ : ByteArray), (sl g5 2 cap6)), ((⟨#[121]⟩ : ByteArray), (sl g8 1 cap9)), ((⟨#[120]⟩ : ByteArray), vn)] : List (ByteArray × Value)), Blk g5 9 (cx [(vs 121), (vs 122)] ex7), Blk g8 9 (cx [(vs 120)] ex10)] [1, 0, 2, 3, 4, 5, 6, 7, 8, 9, 10, 11, 12] rfl (by decide) st223
 refine W1 (OpT.append st224 1 tu106 ts3 tz3 rfl tb3 (by decide) rfl rfl rfl rfl (by decide) (by decide) (fun v225 w226 st227 hn228 => ?_))
 obtain ⟨g229, cap230, ex231, rfl, hE232, hc233, hm234, st235⟩ := St.openRow (n := 1) (cs := [(ii 1)]) (by decide) st227
 replace st235 : St Z w0 w226 (Blk g229 3 (cx [(ii 1)] ex231) :: MpIt (Value.int .i64) (fun _ : Unit => Value.agg #[]) b128 r202 ([(0, ())] : List (Int × Unit)) [] (some (0, ())) :: Blk b33 106 [vn, vn, vn] :: Blk b30 3 [(ii 0), (ii 1), (ii 0)] :: Mp Value.string (Value.int .i64) ib14 ([((⟨#[120]⟩ : ByteArray), 0), ((⟨#[121]⟩ : ByteArray), 1), ((⟨#[122]⟩ : ByteArray), 2)] : List (ByteArray × Int)) :: Blk og15 68 (cx [(sl p118 1 c119), (sl p221 1 c222), (sl p324 1 c325)] ox17) :: Blk p118 9 (cx [(vs 120)] e120) :: Blk p221 9 (cx [(vs 121)] e223) :: Blk p324 9 (cx [(vs 122)] e326) :: Mp Value.string (fun v : Value => v) mb4 ([((⟨#[122]⟩ : ByteArray), (sl g5 2 cap6)), ((⟨#[121]⟩ : ByteArray), (sl g8 1 cap9)), ((⟨#[120]⟩ : ByteArray), vn)] : List (ByteArray × Value)) :: Blk g5 9 (cx [(vs 121), (vs 122)] ex7) :: Blk g8 9 (cx [(vs 120)] ex10) :: L) := st235
 refine W1 (OpT.idx 1 ⟨b33, 0, none⟩ ⟨b33, 0, none⟩ 3 3 .i64 0 tu107 ts106 rfl rfl (by decide) (by decide) rfl ?_)
 refine WL.stepN (OpT.storeS st235 2 (sl g229 1 cap230) rfl ts106 rfl rfl rfl rfl rfl (fun w236 st237 => ?_))
 refine WL.nil ?_
 refine blkQ_n ?_
 refine unrQ_n ?_
 refine UL.cut (fun r => r 3 = (.map (some mb4)) ∧ r 4 = (.map (some ib14)) ∧ r 5 = (sl og15 3 oc16) ∧ r 6 = (sl b30 3 3) ∧ r 7 = (sl b33 3 3) ∧ r 8 = (ii 1) ∧ r 35 = (sl og15 3 oc16) ∧ r 36 = (ii 3) ∧ r 37 = (ii 1) ∧ r 75 = (pt r202 0)) ⟨hI217.1, hI217.2.1, hI217.2.2.1, hI217.2.2.2.1, hI217.2.2.2.2.1, hI217.2.2.2.2.2.1, hI217.2.2.2.2.2.2.1, hI217.2.2.2.2.2.2.2.1, hI217.2.2.2.2.2.2.2.2.1, hI217.2.2.2.2.2.2.2.2.2⟩ ?_
 intro ρ238 hI249
 refine UL.go ?_
 refine Wsr ?_
 have st250 : St Z w0 w236 (MpIt (Value.int .i64) (fun _ : Unit => Value.agg #[]) b128 r202 ([(0, ())] : List (Int × Unit)) [] (some (0, ())) :: Blk g229 3 (cx [(ii 1)] ex231) :: Blk b33 106 [(sl g229 1 cap230), vn, vn] :: Blk b30 3 [(ii 0), (ii 1), (ii 0)] :: Mp Value.string (Value.int .i64) ib14 ([((⟨#[120]⟩ : ByteArray), 0), ((⟨#[121]⟩ : ByteArray), 1), ((⟨#[122]⟩ : ByteArray), 2)] : List (ByteArray × Int)) :: Blk og15 68 (cx [(sl p118 1 c119), (sl p221 1 c222), (sl p324 1 c325)] ox17) :: Blk p118 9 (cx [(vs 120)] e120) :: Blk p221 9 (cx [(vs 121)] e223) :: Blk p324 9 (cx [(vs 122)] e326) :: Mp Value.string (fun v : Value => v) mb4 ([((⟨#[122]⟩ : ByteArray), (sl g5 2 cap6)), ((⟨#[121]⟩ : ByteArray), (sl g8 1 cap9)), ((⟨#[120]⟩ : ByteArray), vn)] : List (ByteArray × Value)) :: Blk g5 9 (cx [(vs 121), (vs 122)] ex7) :: Blk g8 9 (cx [(vs 120)] ex10) :: L) := (St.selD 12 [1, 0, 2, 3, 4, 5, 6, 7, 8, 9, 10, 11] rfl rfl (by decide) st237)
 refine W1 (OpT.next st250 hI249.2.2.2.2.2.2.2.2.2 (fun _ => ?_) (fun A p B w hl _ => absurd hl (by simp)))
 have st251 := st250.endIt
 replace st251 : St Z w0 w236 (Mp (Value.int .i64) (fun _ : Unit => Value.agg #[]) b128 ([(0, ())] : List (Int × Unit)) :: Blk g229 3 (cx [(ii 1)] ex231) :: Blk b33 106 [(sl g229 1 cap230), vn, vn] :: Blk b30 3 [(ii 0), (ii 1), (ii 0)] :: Mp Value.string (Value.int .i64) ib14 ([((⟨#[120]⟩ : ByteArray), 0), ((⟨#[121]⟩ : ByteArray), 1), ((⟨#[122]⟩ : ByteArray), 2)] : List (ByteArray × Int)) :: Blk og15 68 (cx [(sl p118 1 c119), (sl p221 1 c222), (sl p324 1 c325)] ox17) :: Blk p118 9 (cx [(vs 120)] e120) :: Blk p221 9 (cx [(vs 121)] e223) :: Blk p324 9 (cx [(vs 122)] e326) :: Mp Value.string (fun v : Value => v) mb4 ([((⟨#[122]⟩ : ByteArray), (sl g5 2 cap6)), ((⟨#[121]⟩ : ByteArray), (sl g8 1 cap9)), ((⟨#[120]⟩ : ByteArray), vn)] : List (ByteArray × Value)) :: Blk g5 9 (cx [(vs 121), (vs 122)] ex7) :: Blk g8 9 (cx [(vs 120)] ex10) :: L) := st251
 refine W1 (OpT.extract [(.bool false)] (.bool false) rfl rfl ?_)
 refine Wnt ?_
 refine WC.seq ?_
 refine WC.condF rfl ?_
 refine WC.exit ?_
 refine thenQ_x ?_
 refine unrQ_x ?_
 refine blkQ_hit ?_
 refine blkQ_n ?_
 refine thenQ_n ?_
 refine WC.region ?_
 refine W1 (OpT.iadd .i64 (1) (1) (2) hI249.2.2.2.2.2.2.2.2.1 rfl (by decide) ?_)
 refine W1 (OpT.move (ii 2) rfl ?_)
 refine WL.nil ?_
 refine unrQ_n ?_
 refine UL.cut (fun r => r 3 = (.map (some mb4)) ∧ r 4 = (.map (some ib14)) ∧ r 5 = (sl og15 3 oc16) ∧ r 6 = (sl b30 3 3) ∧ r 7 = (sl b33 3 3) ∧ r 35 = (sl og15 3 oc16) ∧ r 36 = (ii 3) ∧ r 37 = (ii 2)) ⟨hI249.1, hI249.2.1, hI249.2.2.1, hI249.2.2.2.1, hI249.2.2.2.2.1, hI249.2.2.2.2.2.2.1, hI249.2.2.2.2.2.2.2.1, rfl⟩ ?_
 have st261 : St Z w0 w236 (Blk g229 3 (cx [(ii 1)] ex231) :: Blk b33 106 [(sl g229 1 cap230), vn, vn] :: Blk b30 3 [(ii 0), (ii 1), (ii 0)] :: Mp Value.string (Value.int .i64) ib14 ([((⟨#[120]⟩ : ByteArray), 0), ((⟨#[121]⟩ : ByteArray), 1), ((⟨#[122]⟩ : ByteArray), 2)] : List (ByteArray × Int)) :: Blk og15 68 (cx [(sl p118 1 c119), (sl p221 1 c222), (sl p324 1 c325)] ox17) :: Blk p118 9 (cx [(vs 120)] e120) :: Blk p221 9 (cx [(vs 121)] e223) :: Blk p324 9 (cx [(vs 122)] e326) :: Mp Value.string (fun v : Value => v) mb4 ([((⟨#[122]⟩ : ByteArray), (sl g5 2 cap6)), ((⟨#[121]⟩ : ByteArray), (sl g8 1 cap9)), ((⟨#[120]⟩ : ByteArray), vn)] : List (ByteArray × Value)) :: Blk g5 9 (cx [(vs 121), (vs 122)] ex7) :: Blk g8 9 (cx [(vs 120)] ex10) :: L) := (St.selD 12 [1, 2, 3, 4, 5, 6, 7, 8, 9, 10, 11] rfl rfl (by decide) st251)
 intro ρ252 hI262
 refine UL.go ?_
 refine Wsr ?_
 refine W1 (OpT.lit (b := (decide ((2 : Int) < (3 : Int)))) (c := true) (by decide) (fun hk => OpT.ilt .i64 (2) (3) hI262.2.2.2.2.2.2.2 hI262.2.2.2.2.2.2.1 hk) ?_)
 refine Wnt ?_
 refine WC.seq ?_
 refine WC.condT rfl ?_
 refine WC.skip ?_
 refine thenQ_n ?_
 refine WC.seq ?_
 refine WC.block ?_
 refine Wsr ?_
 refine W1 (OpT.move (ii 2) hI262.2.2.2.2.2.2.2 ?_)
 refine W1 (OpT.idx 1 ⟨og15, 0, none⟩ ⟨og15, 2, none⟩ 3 oc16 .i64 2 tu74 ts68 hI262.2.2.2.2.2.1 hI262.2.2.2.2.2.2.2 (by decide) (by decide) rfl ?_)
 refine W1 (OpT.loadS ⟨og15, 2, none⟩ (sl p324 1 c325) ta68 rfl (st261.cellB (i := 4) rfl rfl) ?_)
 refine W1 (OpT.assign (ii 2) rfl ?_)
 refine W1 (OpT.assign (sl p324 1 c325) rfl ?_)
 refine Wns ?_
 refine W1 (OpT.makeMap (Value.int .i64) (fun _ : Unit => Value.agg #[]) st261 (fun b263 w264 st265 => ?_))
 refine W1 (OpT.assign (.map (some b263)) rfl ?_)
 refine Wnt ?_
 refine WC.seq ?_
 refine Wsr ?_
 refine W1 (OpT.move (sl p324 1 c325) rfl ?_)
 refine W1 (OpT.litV (v := (ni 1)) (v' := (ii 1)) rfl (fun hk => OpT.lenS _ 1 c325 rfl tu68 rfl hk) ?_)
 refine W1 (OpT.move (ii 0) rfl ?_)
 refine Wnt ?_
 refine WC.block ?_
 refine WC.unroll 12 ?_
 refine UL.cut (fun r => r 3 = (.map (some mb4)) ∧ r 4 = (.map (some ib14)) ∧ r 5 = (sl og15 3 oc16) ∧ r 6 = (sl b30 3 3) ∧ r 7 = (sl b33 3 3) ∧ r 8 = (ii 2) ∧ r 10 = (.map (some b263)) ∧ r 35 = (sl og15 3 oc16) ∧ r 36 = (ii 3) ∧ r 37 = (ii 2) ∧ r 43 = (sl p324 1 c325) ∧ r 44 = (ii 1) ∧ r 45 = (ii 0)) ⟨hI262.1, hI262.2.1, hI262.2.2.1, hI262.2.2.2.1, hI262.2.2.2.2.1, rfl, rfl, hI262.2.2.2.2.2.1, hI262.2.2.2.2.2.2.1, hI262.2.2.2.2.2.2.2, rfl, rfl, rfl⟩ ?_
 intro ρ266 hI280
 refine UL.go ?_
 refine Wsr ?_
 refine W1 (OpT.lit (b := (decide ((0 : Int) < (1 : Int)))) (c := true) (by decide) (fun hk => OpT.ilt .i64 (0) (1) hI280.2.2.2.2.2.2.2.2.2.2.2.2 hI280.2.2.2.2.2.2.2.2.2.2.2.1 hk) ?_)
 refine Wnt ?_
 refine WC.seq ?_
 refine WC.condT rfl ?_
 refine WC.skip ?_
 refine thenQ_n ?_
 refine WC.seq ?_
 refine WC.block ?_
 refine Wsr ?_
 refine W1 (OpT.idx 1 ⟨p324, 0, none⟩ ⟨p324, 0, none⟩ 1 c325 .i64 0 tu68 ts9 hI280.2.2.2.2.2.2.2.2.2.2.1 hI280.2.2.2.2.2.2.2.2.2.2.2.2 (by decide) (by decide) rfl ?_)
 refine W1 (OpT.loadS ⟨p324, 0, none⟩ (vs 122) ta9 rfl (st265.cellB (i := 8) rfl rfl) ?_)
 refine W1 (OpT.assign (vs 122) rfl ?_)
 refine Wns ?_
 refine W1 (OpT.move (.map (some mb4)) hI280.1 ?_)
 refine W1 (OpT.move (vs 122) rfl ?_)
 refine W1 (OpT.litV (v := ((mget ([((⟨#[122]⟩ : ByteArray), (sl g5 2 cap6)), ((⟨#[121]⟩ : ByteArray), (sl g8 1 cap9)), ((⟨#[120]⟩ : ByteArray), vn)] : List (ByteArray × Value)) (⟨#[122]⟩ : ByteArray)).getD vn)) (v' := (sl g5 2 cap6)) (by simp [mget_cons, mget_nil]) (fun hk => OpT.lookupV st265 9 rfl ko9 tu99 tz68 ((⟨#[122]⟩ : ByteArray)) rfl rfl hk) ?_)
 refine W1 (OpT.litV (v := (ni 2)) (v' := (ii 2)) rfl (fun hk => OpT.lenS _ 2 cap6 rfl tu68 rfl hk) ?_)
 refine W1 (OpT.move (ii 0) rfl ?_)
 refine Wnt ?_
 refine WC.block ?_
 refine WC.unroll 12 ?_
 refine UL.cut (fun r => r 3 = (.map (some mb4)) ∧ r 4 = (.map (some ib14)) ∧ r 5 = (sl og15 3 oc16) ∧ r 6 = (sl b30 3 3) ∧ r 7 = (sl b33 3 3) ∧ r 8 = (ii 2) ∧ r 10 = (.map (some b263)) ∧ r 35 = (sl og15 3 oc16) ∧ r 36 = (ii 3) ∧ r 37 = (ii 2) ∧ r 43 = (sl p324 1 c325) ∧ r 44 = (ii 1) ∧ r 45 = (ii 0) ∧ r 51 = (sl g5 2 cap6) ∧ r 52 = (ii 2) ∧ r 53 = (ii 0)) ⟨hI280.1, hI280.2.1, hI280.2.2.1, hI280.2.2.2.1, hI280.2.2.2.2.1, hI280.2.2.2.2.2.1, hI280.2.2.2.2.2.2.1, hI280.2.2.2.2.2.2.2.1, hI280.2.2.2.2.2.2.2.2.1, hI280.2.2.2.2.2.2.2.2.2.1, hI280.2.2.2.2.2.2.2.2.2.2.1, hI280.2.2.2.2.2.2.2.2.2.2.2.1, hI280.2.2.2.2.2.2.2.2.2.2.2.2, rfl, rfl, rfl⟩ ?_
 intro ρ281 hI298
 refine UL.go ?_
 refine Wsr ?_
 refine W1 (OpT.lit (b := (decide ((0 : Int) < (2 : Int)))) (c := true) (by decide) (fun hk => OpT.ilt .i64 (0) (2) hI298.2.2.2.2.2.2.2.2.2.2.2.2.2.2.2 hI298.2.2.2.2.2.2.2.2.2.2.2.2.2.2.1 hk) ?_)
 refine Wnt ?_
 refine WC.seq ?_
 refine WC.condT rfl ?_
 refine WC.skip ?_
 refine thenQ_n ?_
 refine WC.seq ?_
 refine WC.block ?_
 refine Wsr ?_
 refine W1 (OpT.idx 1 ⟨g5, 0, none⟩ ⟨g5, 0, none⟩ 2 cap6 .i64 0 tu68 ts9 hI298.2.2.2.2.2.2.2.2.2.2.2.2.2.1 hI298.2.2.2.2.2.2.2.2.2.2.2.2.2.2.2 (by decide) (by decide) rfl ?_)
 refine W1 (OpT.loadS ⟨g5, 0, none⟩ (vs 121) ta9 rfl (st265.cellB (i := 10) rfl rfl) ?_)
 refine W1 (OpT.assign (vs 121) rfl ?_)
 refine Wns ?_
 refine W1 (OpT.move (.map (some ib14)) hI298.2.1 ?_)
 refine W1 (OpT.move (vs 121) rfl ?_)
 refine W1 (OpT.litV (v := (.int .i64 (((mget ([((⟨#[120]⟩ : ByteArray), 0), ((⟨#[121]⟩ : ByteArray), 1), ((⟨#[122]⟩ : ByteArray), 2)] : List (ByteArray × Int)) (⟨#[121]⟩ : ByteArray)).getD 0)))) (v' := (ii 1)) (by simp [mget_cons, mget_nil]) (fun hk => OpT.lookupI st265 4 rfl ko9 tu81 tz3 ((⟨#[121]⟩ : ByteArray)) rfl rfl hk) ?_)
 refine W1 (OpT.move (ii 2) hI298.2.2.2.2.2.1 ?_)
 refine W1 (OpT.lit (b := (decide ((1 : Int) ≠ (2 : Int)))) (c := true) (by decide) (fun hk => OpT.ine .i64 (1) (2) rfl rfl hk) ?_)
 refine Wnt ?_
 refine WC.condT rfl ?_
 refine WC.region ?_
 refine W1 (OpT.move (.map (some b263)) hI298.2.2.2.2.2.2.1 ?_)
 refine W1 (OpT.move (.map (some ib14)) hI298.2.1 ?_)
 refine W1 (OpT.move (vs 121) rfl ?_)
 refine W1 (OpT.litV (v := (.int .i64 (((mget ([((⟨#[120]⟩ : ByteArray), 0), ((⟨#[121]⟩ : ByteArray), 1), ((⟨#[122]⟩ : ByteArray), 2)] : List (ByteArray × Int)) (⟨#[121]⟩ : ByteArray)).getD 0)))) (v' := (ii 1)) (by simp [mget_cons, mget_nil]) (fun hk => OpT.lookupI st265 4 rfl ko9 tu81 tz3 ((⟨#[121]⟩ : ByteArray)) rfl rfl hk) ?_)
 refine W1 (OpT.build [] [] tz109 tp109 mp0 rfl ?_)
 have e301 : mset ([] : List (Int × Unit)) 1 () = ([(1, ())] : List (Int × Unit)) := by simp [mset_cons, mset_nil]
 refine WL.stepN (OpT.mapSet st265 0 rfl ko3 tu108 (1) (()) rfl rfl rfl (fun w299 st300 => ?_))
 rw [e301] at st300
 refine WL.nil ?_
 refine blkQ_n ?_
 refine thenQ_n ?_
 refine WC.region ?_
 refine W1 (OpT.iadd .i64 (0) (1) (1) hI298.2.2.2.2.2.2.2.2.2.2.2.2.2.2.2 rfl (by decide) ?_)
 refine W1 (OpT.move (ii 1) rfl ?_)
 refine WL.nil ?_
 refine unrQ_n ?_
 refine UL.cut (fun r => r 3 = (.map (some mb4)) ∧ r 4 = (.map (some ib14)) ∧ r 5 = (sl og15 3 oc16) ∧ r 6 = (sl b30 3 3) ∧ r 7 = (sl b33 3 3) ∧ r 8 = (ii 2) ∧ r 10 = (.map (some b263)) ∧ r 35 = (sl og15 3 oc16) ∧ r 36 = (ii 3) ∧ r 37 = (ii 2) ∧ r 43 = (sl p324 1 c325) ∧ r 44 = (ii 1) ∧ r 45 = (ii 0) ∧ r 51 = (sl g5 2 cap6) ∧ r 52 = (ii 2) ∧ r 53 = (ii 1)) ⟨hI298.1, hI298.2.1, hI298.2.2.1, hI298.2.2.2.1, hI298.2.2.2.2.1, hI298.2.2.2.2.2.1, hI298.2.2.2.2.2.2.1, hI298.2.2.2.2.2.2.2.1, hI298.2.2.2.2.2.2.2.2.1, hI298.2.2.2.2.2.2.2.2.2.1, hI298.2.2.2.2.2.2.2.2.2.2.1, hI298.2.2.2.2.2.2.2.2.2.2.2.1, hI298.2.2.2.2.2.2.2.2.2.2.2.2.1, hI298.2.2.2.2.2.2.2.2.2.2.2.2.2.1, hI298.2.2.2.2.2.2.2.2.2.2.2.2.2.2.1, rfl⟩ ?_
 intro ρ302 hI319
 refine UL.go ?_
 refine Wsr ?_
 refine W1 (OpT.lit (b := (decide ((1 : Int) < (2 : Int)))) (c := true) (by decide) (fun hk => OpT.ilt .i64 (1) (2) hI319.2.2.2.2.2.2.2.2.2.2.2.2.2.2.2 hI319.2.2.2.2.2.2.2.2.2.2.2.2.2.2.1 hk) ?_)
 refine Wnt ?_
 refine WC.seq ?_
 refine WC.condT rfl ?_
 refine WC.skip ?_
 refine thenQ_n ?_
 refine WC.seq ?_
 refine WC.block ?_
 refine Wsr ?_
 refine W1 (OpT.idx 1 ⟨g5, 0, none⟩ ⟨g5, 1, none⟩ 2 cap6 .i64 1 tu68 ts9 hI319.2.2.2.2.2.2.2.2.2.2.2.2.2.1 hI319.2.2.2.2.2.2.2.2.2.2.2.2.2.2.2 (by decide) (by decide) rfl ?_)
 refine W1 (OpT.loadS ⟨g5, 1, none⟩ (vs 122) ta9 rfl (st300.cellB (i := 10) rfl rfl) ?_)
 refine W1 (OpT.assign (vs 122) rfl ?_)
 refine Wns ?_
 refine W1 (OpT.move (.map (some ib14)) hI319.2.1 ?_)
 refine W1 (OpT.move (vs 122) rfl ?_)
 refine W1 (OpT.litV (v := (.int .i64 (((mget ([((⟨#[120]⟩ : ByteArray), 0), ((⟨#[121]⟩ : ByteArray), 1), ((⟨#[122]⟩ : ByteArray), 2)] : List (ByteArray × Int)) (⟨#[122]⟩ : ByteArray)).getD 0)))) (v' := (ii 2)) (by simp [mget_cons, mget_nil]) (fun hk => OpT.lookupI st300 4 rfl ko9 tu81 tz3 ((⟨#[122]⟩ : ByteArray)) rfl rfl hk) ?_)
 refine W1 (OpT.move (ii 2) hI319.2.2.2.2.2.1 ?_)
 refine W1 (OpT.lit (b := (decide ((2 : Int) ≠ (2 : Int)))) (c := false) (by decide) (fun hk => OpT.ine .i64 (2) (2) rfl rfl hk) ?_)
 refine Wnt ?_
 refine WC.condF rfl ?_
 refine WC.skip ?_
 refine blkQ_n ?_
 refine thenQ_n ?_
 refine WC.region ?_
 refine W1 (OpT.iadd .i64 (1) (1) (2) hI319.2.2.2.2.2.2.2.2.2.2.2.2.2.2.2 rfl (by decide) ?_)
 refine W1 (OpT.move (ii 2) rfl ?_)
 refine WL.nil ?_
 refine unrQ_n ?_
 refine UL.cut (fun r => r 3 = (.map (some mb4)) ∧ r 4 = (.map (some ib14)) ∧ r 5 = (sl og15 3 oc16) ∧ r 6 = (sl b30 3 3) ∧ r 7 = (sl b33 3 3) ∧ r 8 = (ii 2) ∧ r 10 = (.map (some b263)) ∧ r 35 = (sl og15 3 oc16) ∧ r 36 = (ii 3) ∧ r 37 = (ii 2) ∧ r 43 = (sl p324 1 c325) ∧ r 44 = (ii 1) ∧ r 45 = (ii 0) ∧ r 51 = (sl g5 2 cap6) ∧ r 52 = (ii 2) ∧ r 53 = (ii 2)) ⟨hI319.1, hI319.2.1, hI319.2.2.1, hI319.2.2.2.1, hI319.2.2.2.2.1, hI319.2.2.2.2.2.1, hI319.2.2.2.2.2.2.1, hI319.2.2.2.2.2.2.2.1, hI319.2.2.2.2.2.2.2.2.1, hI319.2.2.2.2.2.2.2.2.2.1, hI319.2.2.2.2.2.2.2.2.2.2.1, hI319.2.2.2.2.2.2.2.2.2.2.2.1, hI319.2.2.2.2.2.2.2.2.2.2.2.2.1, hI319.2.2.2.2.2.2.2.2.2.2.2.2.2.1, hI319.2.2.2.2.2.2.2.2.2.2.2.2.2.2.1, rfl⟩ ?_
 intro ρ320 hI337
 refine UL.go ?_
 refine Wsr ?_
 refine W1 (OpT.lit (b := (decide ((2 : Int) < (2 : Int)))) (c := false) (by decide) (fun hk => OpT.ilt .i64 (2) (2) hI337.2.2.2.2.2.2.2.2.2.2.2.2.2.2.2 hI337.2.2.2.2.2.2.2.2.2.2.2.2.2.2.1 hk) ?_)
 refine Wnt ?_
 refine WC.seq ?_
 refine WC.condF rfl ?_
 refine WC.exit ?_
 refine thenQ_x ?_
 refine unrQ_x ?_
 refine blkQ_hit ?_
 refine blkQ_n ?_
 refine thenQ_n ?_
 refine WC.region ?_
 refine W1 (OpT.iadd .i64 (0) (1) (1) hI337.2.2.2.2.2.2.2.2.2.2.2.2.1 rfl (by decide) ?_)
 refine W1 (OpT.move (ii 1) rfl ?_)
 refine WL.nil ?_
 refine unrQ_n ?_
 refine UL.cut (fun r => r 3 = (.map (some mb4)) ∧ r 4 = (.map (some ib14)) ∧ r 5 = (sl og15 3 oc16) ∧ r 6 = (sl b30 3 3) ∧ r 7 = (sl b33 3 3) ∧ r 8 = (ii 2) ∧ r 10 = (.map (some b263)) ∧ r 35 = (sl og15 3 oc16) ∧ r 36 = (ii 3) ∧ r 37 = (ii 2) ∧ r 43 = (sl p324 1 c325) ∧ r 44 = (ii 1) ∧ r 45 = (ii 1)) ⟨hI337.1, hI337.2.1, hI337.2.2.1, hI337.2.2.2.1, hI337.2.2.2.2.1, hI337.2.2.2.2.2.1, hI337.2.2.2.2.2.2.1, hI337.2.2.2.2.2.2.2.1, hI337.2.2.2.2.2.2.2.2.1, hI337.2.2.2.2.2.2.2.2.2.1, hI337.2.2.2.2.2.2.2.2.2.2.1, hI337.2.2.2.2.2.2.2.2.2.2.2.1, rfl⟩ ?_
 intro ρ338 hI352
 refine UL.go ?_
 refine Wsr ?_
 refine W1 (OpT.lit (b := (decide ((1 : Int) < (1 : Int)))) (c := false) (by decide) (fun hk => OpT.ilt .i64 (1) (1) hI352.2.2.2.2.2.2.2.2.2.2.2.2 hI352.2.2.2.2.2.2.2.2.2.2.2.1 hk) ?_)
 refine Wnt ?_
 refine WC.seq ?_
 refine WC.condF rfl ?_
 refine WC.exit ?_
 refine thenQ_x ?_
 refine unrQ_x ?_
 refine blkQ_hit ?_
 refine thenQ_n ?_
 refine Wsr ?_
 refine W1 (OpT.move (sl b30 3 3) hI352.2.2.2.1 ?_)
 refine W1 (OpT.move (ii 2) hI352.2.2.2.2.2.1 ?_)
 refine W1 (OpT.move (.map (some b263)) hI352.2.2.2.2.2.2.1 ?_)
 refine W1 (OpT.litV (v := (ni 1)) (v' := (ii 1)) rfl (fun hk => OpT.lenMap st300 0 rfl rfl tu108 rfl hk) ?_)
 refine W1 (OpT.idx 1 ⟨b30, 0, none⟩ ⟨b30, 2, none⟩ 3 3 .i64 2 tu106 ts3 rfl rfl (by decide) (by decide) rfl ?_)
 refine WL.stepN (OpT.storeS st300 3 (ii 1) rfl ts3 rfl rfl rfl rfl rfl (fun w353 st354 => ?_))
 refine Wns ?_
 refine W1 (OpT.move (.map (some b263)) hI352.2.2.2.2.2.2.1 ?_)
 have st358 : St Z w0 w353 (Mp (Value.int .i64) (fun _ : Unit => Value.agg #[]) b263 ([(1, ())] : List (Int × Unit)) :: Blk g229 3 (cx [(ii 1)] ex231) :: Blk b33 106 [(sl g229 1 cap230), vn, vn] :: Blk b30 3 [(ii 0), (ii 1), (ii 1)] :: Mp Value.string (Value.int .i64) ib14 ([((⟨#[120]⟩ : ByteArray), 0), ((⟨#[121]⟩ : ByteArray), 1), ((⟨#[122]⟩ : ByteArray), 2)] : List (ByteArray × Int)) :: Blk og15 68 (cx [(sl p118 1 c119), (sl p221 1 c222), (sl p324 1 c325)] ox17) :: Blk p118 9 (cx [(vs 120)] e120) :: Blk p221 9 (cx [(vs 121)] e223) :: Blk p324 9 (cx [(vs 122)] e326) :: Mp Value.string (fun v : Value => v) mb4 ([((⟨#[122]⟩ : ByteArray), (sl g5 2 cap6)), ((⟨#[121]⟩ : ByteArray), (sl g8 1 cap9)), ((⟨#[120]⟩ : ByteArray), vn)] : List (ByteArray × Value)) :: Blk g5 9 (cx [(vs 121), (vs 122)] ex7) :: Blk g8 9 (cx [(vs 120)] ex10) :: L) := st354
 refine W1 (OpT.range st358 tu108 rfl (fun r355 w356 st357 => ?_))
 refine Wnt ?_
 refine WC.block ?_
 refine WC.unroll 12 ?_
 refine UL.cut (fun r => r 3 = (.map (some mb4)) ∧ r 4 = (.map (some ib14)) ∧ r 5 = (sl og15 3 oc16) ∧ r 6 = (sl b30 3 3) ∧ r 7 = (sl b33 3 3) ∧ r 8 = (ii 2) ∧ r 35 = (sl og15 3 oc16) ∧ r 36 = (ii 3) ∧ r 37 = (ii 2) ∧ r 75 = (pt r355 0)) ⟨hI352.1, hI352.2.1, hI352.2.2.1, hI352.2.2.2.1, hI352.2.2.2.2.1, hI352.2.2.2.2.2.1, hI352.2.2.2.2.2.2.2.1, hI352.2.2.2.2.2.2.2.2.1, hI352.2.2.2.2.2.2.2.2.2.1, rfl⟩ ?_
 intro ρ359 hI370
 refine UL.go ?_
 refine Wsr ?_
 refine W1 (OpT.next st357 hI370.2.2.2.2.2.2.2.2.2 (fun h => absurd h (by simp)) ?_)
 rintro A p B w371 hl st372
 obtain ⟨rfl, rfl, rfl⟩ := one_left hl
 replace st372 : St Z w0 w371 (MpIt (Value.int .i64) (fun _ : Unit => Value.agg #[]) b263 r355 ([(1, ())] : List (Int × Unit)) [] (some (1, ())) :: Blk g229 3 (cx [(ii 1)] ex231) :: Blk b33 106 [(sl g229 1 cap230), vn, vn] :: Blk b30 3 [(ii 0), (ii 1), (ii 1)] :: Mp Value.string (Value.int .i64) ib14 ([((⟨#[120]⟩ : ByteArray), 0), ((⟨#[121]⟩ : ByteArray), 1), ((⟨#[122]⟩ : ByteArray), 2)] : List (ByteArray × Int)) :: Blk og15 68 (cx [(sl p118 1 c119), (sl p221 1 c222), (sl p324 1 c325)] ox17) :: Blk p118 9 (cx [(vs 120)] e120) :: Blk p221 9 (cx [(vs 121)] e223) :: Blk p324 9 (cx [(vs 122)] e326) :: Mp Value.string (fun v : Value => v) mb4 ([((⟨#[122]⟩ : ByteArray), (sl g5 2 cap6)), ((⟨#[121]⟩ : ByteArray), (sl g8 1 cap9)), ((⟨#[120]⟩ : ByteArray), vn)] : List (ByteArray × Value)) :: Blk g5 9 (cx [(vs 121), (vs 122)] ex7) :: Blk g8 9 (cx [(vs 120)] ex10) :: L) := st372
 refine W1 (OpT.extract [(.bool true), (ii 1), (.agg #[])] (.bool true) rfl rfl ?_)
 refine Wnt ?_
 refine WC.seq ?_
 refine WC.condT rfl ?_
 refine WC.skip ?_
 refine thenQ_n ?_
 refine WC.block ?_
 refine Wsr ?_
 refine W1 (OpT.entry st372 hI370.2.2.2.2.2.2.2.2.2 ?_)
 refine W1 (OpT.extract [(ii 1), (.agg #[])] (ii 1) rfl rfl ?_)
 refine W1 (OpT.assign (ii 1) rfl ?_)
 refine Wnr ?_
 refine W1 (OpT.move (sl b33 3 3) hI370.2.2.2.2.1 ?_)
 refine W1 (OpT.move (ii 1) rfl ?_)
 refine W1 (OpT.move (sl b33 3 3) hI370.2.2.2.2.1 ?_)
 refine W1 (OpT.move (ii 1) rfl ?_)
 refine W1 (OpT.idx 1 ⟨b33, 0, none⟩ ⟨b33, 1, none⟩ 3 3 .i64 1 tu107 ts106 rfl rfl (by decide) (by decide) rfl ?_)
 refine W1 (OpT.loadS ⟨b33, 1, none⟩ vn ta106 rfl (st372.cellB (i := 2) rfl rfl) ?_)
 refine W1 (OpT.move (ii 2) hI370.2.2.2.2.2.1 ?_)
 refine W1 (OpT.buildSlice st372 [(0, (ii 2))] [(ii 2)] tu106 ts3 tz3 (mp1 rfl) (by kernel_rfl) (by decide) (fun b373 w374 st375 => ?_))
 have st376 := St.rowNil 3 1 (st375 : St Z w0 w374 (Blk b373 3 [(ii 2)] :: MpIt (Value.int .i64) (fun _ : Unit => Value.agg #[]) b263 r355 ([(1, ())] : List (Int × Unit)) [] (some (1, ())) :: Blk g229 3 (cx [(ii 1)] ex231) :: Blk b33 106 [(sl g229 1 cap230), vn, vn] :: Blk b30 3 [(ii 0), (ii 1), (ii 1)] :: Mp Value.string (Value.int .i64) ib14 ([((⟨#[120]⟩ : ByteArray), 0), ((⟨#[121]⟩ : ByteArray), 1), ((⟨#[122]⟩ : ByteArray), 2)] : List (ByteArray × Int)) :: Blk og15 68 (cx [(sl p118 1 c119), (sl p221 1 c222), (sl p324 1 c325)] ox17) :: Blk p118 9 (cx [(vs 120)] e120) :: Blk p221 9 (cx [(vs 121)] e223) :: Blk p324 9 (cx [(vs 122)] e326) :: Mp Value.string (fun v : Value => v) mb4 ([((⟨#[122]⟩ : ByteArray), (sl g5 2 cap6)), ((⟨#[121]⟩ : ByteArray), (sl g8 1 cap9)), ((⟨#[120]⟩ : ByteArray), vn)] : List (ByteArray × Value)) :: Blk g5 9 (cx [(vs 121), (vs 122)] ex7) :: Blk g8 9 (cx [(vs 120)] ex10) :: L))
 have st377 : St Z w0 w374 (Blk b373 3 [(ii 2)] :: Row 3 1 vn 0 [] :: MpIt (Value.int .i64) (fun _ : Unit => Value.agg #[]) b263 r355 ([(1, ())] : List (Int × Unit)) [] (some (1, ())) :: Blk g229 3 (cx [(ii 1)] ex231) :: Blk b33 106 [(sl g229 1 cap230), vn, vn] :: Blk b30 3 [(ii 0), (ii 1), (ii 1)] :: Mp Value.string (Value.int .i64) ib14 ([((⟨#[120]⟩ : ByteArray), 0), ((⟨#[121]⟩ : ByteArray), 1), ((⟨#[122]⟩ : ByteArray), 2)] : List (ByteArray × Int)) :: Blk og15 68 (cx [(sl p118 1 c119), (sl p221 1 c222), (sl p324 1 c325)] ox17) :: Blk p118 9 (cx [(vs 120)] e120) :: Blk p221 9 (cx [(vs 121)] e223) :: Blk p324 9 (cx [(vs 122)] e326) :: Mp Value.string (fun v : Value => v) mb4 ([((⟨#[122]⟩ : ByteArray), (sl g5 2 cap6)), ((⟨#[121]⟩ : ByteArray), (sl g8 1 cap9)), ((⟨#[120]⟩ : ByteArray), vn)] : List (ByteArray × Value)) :: Blk g5 9 (cx [(vs 121), (vs 122)] ex7) :: Blk g8 9 (cx [(vs 120)] ex10) :: L) := St.selT [Row 3 1 vn 0 [], Blk b373 3 [(ii 2)], MpIt (Value.int .i64) (fun _ : Unit => Value.agg #[]) b263 r355 ([(1, ())] : List (Int × Unit)) [] (some (1, ())), Blk g229 3 (cx [(ii 1)] ex231), Blk b33 106 [(sl g229 1 cap230), vn, vn], Blk b30 3 [(ii 0), (ii 1), (ii 1)], Mp Value.string (Value.int .i64) ib14 ([((⟨#[120]⟩ : ByteArray), 0), ((⟨#[121]⟩ : ByteArray), 1), ((⟨#[122]⟩ : ByteArray), 2)] : List (ByteArray × Int)), Blk og15 68 (cx [(sl p118 1 c119), (sl p221 1 c222), (sl p324 1 c325)] ox17), Blk p118 9 (cx [(vs 120)] e120), Blk p221 9 (cx [(vs 121)] e223), Blk p324 9 (cx [(vs 122)] e326), Mp Value.string (fun v : Value => v) mb4 ([((⟨#[122]⟩ : ByteArray), (sl g5 2 cap6)), ((⟨#[121]⟩ : ByteArray), (sl g8 1 cap9)), ((⟨#[120]⟩ : ByteArray), vn)] : List (ByteArray × Value)), Blk g5 9 (cx [(vs 121), (vs 122)] ex7), Blk g8 9 (cx [(vs 120)] ex10)] [1, 0, 2, 3, 4, 5, 6, 7, 8, 9, 10, 11, 12, 13] rfl (by decide) st376
 refine W1 (OpT.append st377 1 tu106 ts3 tz3 rfl tb3 (by decide) rfl rfl rfl rfl (by decide) (by decide) (fun v378 w379 st380 hn381 => ?_))
 obtain ⟨g382, cap383, ex384, rfl, hE385, hc386, hm387, st388⟩ := St.openRow (n := 1) (cs := [(ii 2)]) (by decide) st380
 replace st388 : St Z w0 w379 (Blk g382 3 (cx [(ii 2)] ex384) :: MpIt (Value.int .i64) (fun _ : Unit => Value.agg #[]) b263 r355 ([(1, ())] : List (Int × Unit)) [] (some (1, ())) :: Blk g229 3 (cx [(ii 1)] ex231) :: Blk b33 106 [(sl g229 1 cap230), vn, vn] :: Blk b30 3 [(ii 0), (ii 1), (ii 1)] :: Mp Value.string (Value.int .i64) ib14 ([((⟨#[120]⟩ : ByteArray), 0), ((⟨#[121]⟩ : ByteArray), 1), ((⟨#[122]⟩ : ByteArray), 2)] : List (ByteArray × Int)) :: Blk og15 68 (cx [(sl p118 1 c119), (sl p221 1 c222), (sl p324 1 c325)] ox17) :: Blk p118 9 (cx [(vs 120)] e120) :: Blk p221 9 (cx [(vs 121)] e223) :: Blk p324 9 (cx [(vs 122)] e326) :: Mp Value.string (fun v : Value => v) mb4 ([((⟨#[122]⟩ : ByteArray), (sl g5 2 cap6)), ((⟨#[121]⟩ : ByteArray), (sl g8 1 cap9)), ((⟨#[120]⟩ : ByteArray), vn)] : List (ByteArray × Value)) :: Blk g5 9 (cx [(vs 121), (vs 122)] ex7) :: Blk g8 9 (cx [(vs 120)] ex10) :: L) := st388
 refine W1 (OpT.idx 1 ⟨b33, 0, none⟩ ⟨b33, 1, none⟩ 3 3 .i64 1 tu107 ts106 rfl rfl (by decide) (by decide) rfl ?_)
 refine WL.stepN (OpT.storeS st388 3 (sl g382 1 cap383) rfl ts106 rfl rfl rfl rfl rfl (fun w389 st390 => ?_))
 refine WL.nil ?_
 refine blkQ_n ?_
 refine unrQ_n ?_
 refine UL.cut (fun r => r 3 = (.map (some mb4)) ∧ r 4 = (.map (some ib14)) ∧ r 5 = (sl og15 3 oc16) ∧ r 6 = (sl b30 3 3) ∧ r 7 = (sl b33 3 3) ∧ r 8 = (ii 2) ∧ r 35 = (sl og15 3 oc16) ∧ r 36 = (ii 3) ∧ r 37 = (ii 2) ∧ r 75 = (pt r355 0)) ⟨hI370.1, hI370.2.1, hI370.2.2.1, hI370.2.2.2.1, hI370.2.2.2.2.1, hI370.2.2.2.2.2.1, hI370.2.2.2.2.2.2.1, hI370.2.2.2.2.2.2.2.1, hI370.2.2.2.2.2.2.2.2.1, hI370.2.2.2.2.2.2.2.2.2⟩ ?_
 intro ρ391 hI402
 refine UL.go ?_
 refine Wsr ?_
 have st403 : St Z w0 w389 (MpIt (Value.int .i64) (fun _ : Unit => Value.agg #[]) b263 r355 ([(1, ())] : List (Int × Unit)) [] (some (1, ())) :: Blk g382 3 (cx [(ii 2)] ex384) :: Blk g229 3 (cx [(ii 1)] ex231) :: Blk b33 106 [(sl g229 1 cap230), (sl g382 1 cap383), vn] :: Blk b30 3 [(ii 0), (ii 1), (ii 1)] :: Mp Value.string (Value.int .i64) ib14 ([((⟨#[120]⟩ : ByteArray), 0), ((⟨#[121]⟩ : ByteArray), 1), ((⟨#[122]⟩ : ByteArray), 2)] : List (ByteArray × Int)) :: Blk og15 68 (cx [(sl p118 1 c119), (sl p221 1 c222), (sl p324 1 c325)] ox17) :: Blk p118 9 (cx [(vs 120)] e120) :: Blk p221 9 (cx [(vs 121)] e223) :: Blk p324 9 (cx [(vs 122)] e326) :: Mp Value.string (fun v : Value => v) mb4 ([((⟨#[122]⟩ : ByteArray), (sl g5 2 cap6)), ((⟨#[121]⟩ : ByteArray), (sl g8 1 cap9)), ((⟨#[120]⟩ : ByteArray), vn)] : List (ByteArray × Value)) :: Blk g5 9 (cx [(vs 121), (vs 122)] ex7) :: Blk g8 9 (cx [(vs 120)] ex10) :: L) := (St.selD 13 [1, 0, 2, 3, 4, 5, 6, 7, 8, 9, 10, 11, 12] rfl rfl (by decide) st390)
 refine W1 (OpT.next st403 hI402.2.2.2.2.2.2.2.2.2 (fun _ => ?_) (fun A p B w hl _ => absurd hl (by simp)))
 have st404 := st403.endIt
 replace st404 : St Z w0 w389 (Mp (Value.int .i64) (fun _ : Unit => Value.agg #[]) b263 ([(1, ())] : List (Int × Unit)) :: Blk g382 3 (cx [(ii 2)] ex384) :: Blk g229 3 (cx [(ii 1)] ex231) :: Blk b33 106 [(sl g229 1 cap230), (sl g382 1 cap383), vn] :: Blk b30 3 [(ii 0), (ii 1), (ii 1)] :: Mp Value.string (Value.int .i64) ib14 ([((⟨#[120]⟩ : ByteArray), 0), ((⟨#[121]⟩ : ByteArray), 1), ((⟨#[122]⟩ : ByteArray), 2)] : List (ByteArray × Int)) :: Blk og15 68 (cx [(sl p118 1 c119), (sl p221 1 c222), (sl p324 1 c325)] ox17) :: Blk p118 9 (cx [(vs 120)] e120) :: Blk p221 9 (cx [(vs 121)] e223) :: Blk p324 9 (cx [(vs 122)] e326) :: Mp Value.string (fun v : Value => v) mb4 ([((⟨#[122]⟩ : ByteArray), (sl g5 2 cap6)), ((⟨#[121]⟩ : ByteArray), (sl g8 1 cap9)), ((⟨#[120]⟩ : ByteArray), vn)] : List (ByteArray × Value)) :: Blk g5 9 (cx [(vs 121), (vs 122)] ex7) :: Blk g8 9 (cx [(vs 120)] ex10) :: L) := st404
 refine W1 (OpT.extract [(.bool false)] (.bool false) rfl rfl ?_)
 refine Wnt ?_
 refine WC.seq ?_
 refine WC.condF rfl ?_
 refine WC.exit ?_
 refine thenQ_x ?_
 refine unrQ_x ?_
 refine blkQ_hit ?_
 refine blkQ_n ?_
 refine thenQ_n ?_
 refine WC.region ?_
 refine W1 (OpT.iadd .i64 (2) (1) (3) hI402.2.2.2.2.2.2.2.2.1 rfl (by decide) ?_)
 refine W1 (OpT.move (ii 3) rfl ?_)
 refine WL.nil ?_
 refine unrQ_n ?_
 refine UL.cut (fun r => r 3 = (.map (some mb4)) ∧ r 4 = (.map (some ib14)) ∧ r 5 = (sl og15 3 oc16) ∧ r 6 = (sl b30 3 3) ∧ r 7 = (sl b33 3 3) ∧ r 35 = (sl og15 3 oc16) ∧ r 36 = (ii 3) ∧ r 37 = (ii 3)) ⟨hI402.1, hI402.2.1, hI402.2.2.1, hI402.2.2.2.1, hI402.2.2.2.2.1, hI402.2.2.2.2.2.2.1, hI402.2.2.2.2.2.2.2.1, rfl⟩ ?_
 have st414 : St Z w0 w389 (Blk g382 3 (cx [(ii 2)] ex384) :: Blk g229 3 (cx [(ii 1)] ex231) :: Blk b33 106 [(sl g229 1 cap230), (sl g382 1 cap383), vn] :: Blk b30 3 [(ii 0), (ii 1), (ii 1)] :: Mp Value.string (Value.int .i64) ib14 ([((⟨#[120]⟩ : ByteArray), 0), ((⟨#[121]⟩ : ByteArray), 1), ((⟨#[122]⟩ : ByteArray), 2)] : List (ByteArray × Int)) :: Blk og15 68 (cx [(sl p118 1 c119), (sl p221 1 c222), (sl p324 1 c325)] ox17) :: Blk p118 9 (cx [(vs 120)] e120) :: Blk p221 9 (cx [(vs 121)] e223) :: Blk p324 9 (cx [(vs 122)] e326) :: Mp Value.string (fun v : Value => v) mb4 ([((⟨#[122]⟩ : ByteArray), (sl g5 2 cap6)), ((⟨#[121]⟩ : ByteArray), (sl g8 1 cap9)), ((⟨#[120]⟩ : ByteArray), vn)] : List (ByteArray × Value)) :: Blk g5 9 (cx [(vs 121), (vs 122)] ex7) :: Blk g8 9 (cx [(vs 120)] ex10) :: L) := (St.selD 13 [1, 2, 3, 4, 5, 6, 7, 8, 9, 10, 11, 12] rfl rfl (by decide) st404)
 intro ρ405 hI415
 refine UL.go ?_
 refine Wsr ?_
 refine W1 (OpT.lit (b := (decide ((3 : Int) < (3 : Int)))) (c := false) (by decide) (fun hk => OpT.ilt .i64 (3) (3) hI415.2.2.2.2.2.2.2 hI415.2.2.2.2.2.2.1 hk) ?_)
 refine Wnt ?_
 refine WC.seq ?_
 refine WC.condF rfl ?_
 refine WC.exit ?_
 refine thenQ_x ?_
 refine unrQ_x ?_
 refine blkQ_hit ?_
 refine thenQ_n ?_
 refine Wsr ?_
 refine W1 (OpT.assign vn rfl ?_)
 refine Wnt ?_
 refine WC.seq ?_
 refine Wsr ?_
 refine W1 (OpT.move (sl og15 3 oc16) hI415.2.2.1 ?_)
 refine W1 (OpT.litV (v := (ni 3)) (v' := (ii 3)) rfl (fun hk => OpT.lenS _ 3 oc16 rfl tu74 rfl hk) ?_)
 refine W1 (OpT.move (ii 0) rfl ?_)
 refine Wnt ?_
 refine WC.block ?_
 refine WC.unroll 12 ?_
 refine UL.cut (fun r => r 5 = (sl og15 3 oc16) ∧ r 6 = (sl b30 3 3) ∧ r 7 = (sl b33 3 3) ∧ r 16 = vn ∧ r 92 = (ii 3) ∧ r 93 = (ii 0)) ⟨hI415.2.2.1, hI415.2.2.2.1, hI415.2.2.2.2.1, rfl, rfl, rfl⟩ ?_
 have st423 : St Z w0 w389 (Blk g382 3 (cx [(ii 2)] ex384) :: Blk g229 3 (cx [(ii 1)] ex231) :: Blk b33 106 [(sl g229 1 cap230), (sl g382 1 cap383), vn] :: Blk b30 3 [(ii 0), (ii 1), (ii 1)] :: Blk og15 68 (cx [(sl p118 1 c119), (sl p221 1 c222), (sl p324 1 c325)] ox17) :: Blk p118 9 (cx [(vs 120)] e120) :: Blk p221 9 (cx [(vs 121)] e223) :: Blk p324 9 (cx [(vs 122)] e326) :: L) := (St.selD 12 [0, 1, 2, 3, 5, 6, 7, 8] rfl rfl (by decide) st414)
 intro ρ416 hI424
 refine UL.go ?_
 refine Wsr ?_
 refine W1 (OpT.lit (b := (decide ((0 : Int) < (3 : Int)))) (c := true) (by decide) (fun hk => OpT.ilt .i64 (0) (3) hI424.2.2.2.2.2 hI424.2.2.2.2.1 hk) ?_)
 refine Wnt ?_
 refine WC.seq ?_
 refine WC.condT rfl ?_
 refine WC.skip ?_
 refine thenQ_n ?_
 refine WC.seq ?_
 refine WC.block ?_
 refine Wsr ?_
 refine W1 (OpT.assign (ii (-1)) rfl ?_)
 refine Wnt ?_
 refine WC.seq ?_
 refine Wsr ?_
 refine W1 (OpT.move (sl b30 3 3) hI424.2.1 ?_)
 refine W1 (OpT.litV (v := (ni 3)) (v' := (ii 3)) rfl (fun hk => OpT.lenS _ 3 3 rfl tu106 rfl hk) ?_)
 refine W1 (OpT.move (ii 0) rfl ?_)
 refine Wnt ?_
 refine WC.block ?_
 refine WC.unroll 12 ?_
 refine UL.cut (fun r => r 5 = (sl og15 3 oc16) ∧ r 6 = (sl b30 3 3) ∧ r 7 = (sl b33 3 3) ∧ r 16 = vn ∧ r 17 = (ii (-1)) ∧ r 92 = (ii 3) ∧ r 93 = (ii 0) ∧ r 95 = (sl b30 3 3) ∧ r 96 = (ii 3) ∧ r 97 = (ii 0)) ⟨hI424.1, hI424.2.1, hI424.2.2.1, hI424.2.2.2.1, rfl, hI424.2.2.2.2.1, hI424.2.2.2.2.2, rfl, rfl, rfl⟩ ?_
 intro ρ425 hI436
 refine UL.go ?_
 refine Wsr ?_
 refine W1 (OpT.lit (b := (decide ((0 : Int) < (3 : Int)))) (c := true) (by decide) (fun hk => OpT.ilt .i64 (0) (3) hI436.2.2.2.2.2.2.2.2.2 hI436.2.2.2.2.2.2.2.2.1 hk) ?_)
 refine Wnt ?_
 refine WC.seq ?_
 refine WC.condT rfl ?_
 refine WC.skip ?_
 refine thenQ_n ?_
 refine WC.seq ?_
 refine WC.block ?_
 refine Wsr ?_
 refine W1 (OpT.move (ii 0) hI436.2.2.2.2.2.2.2.2.2 ?_)
 refine W1 (OpT.idx 1 ⟨b30, 0, none⟩ ⟨b30, 0, none⟩ 3 3 .i64 0 tu106 ts3 hI436.2.2.2.2.2.2.2.1 hI436.2.2.2.2.2.2.2.2.2 (by decide) (by decide) rfl ?_)
 refine W1 (OpT.loadS ⟨b30, 0, none⟩ (ii 0) ta3 rfl (st423.cellB (i := 3) rfl rfl) ?_)
 refine W1 (OpT.assign (ii 0) rfl ?_)
 refine W1 (OpT.assign (ii 0) rfl ?_)
 refine Wnt ?_
 refine WC.seq ?_
 refine WC.draw 21 (fun jj vv => match jj with | 0 => vv = (ii 0) | 1 => vv = (.bool true) | 2 => vv = (.bool true) | 3 => vv = (ii (-1)) | 4 => vv = (.bool true) | 5 => vv = (.bool true) | 6 => vv = undef | 7 => vv = undef | 8 => vv = undef | 9 => vv = undef | 10 => vv = undef | 11 => vv = undef | 12 => vv = undef | 13 => vv = undef | 14 => vv = undef | 15 => vv = undef | 16 => vv = undef | 17 => vv = undef | 18 => vv = undef | 19 => vv = (.bool true) | 20 => vv = (.bool true) | _ => True) (fun _ _ => []) st423 fmix (by kernel_rfl) ((obS (obS (obS (obS (obS (obS (obS (obS (obS (obS (obS (obS (obS (obS (obS (obS (obS (obS (obS (obS (obS ob0 ?_) ?_) ?_) ?_) ?_) ?_) ?_) ?_) ?_) ?_) ?_) ?_) ?_) ?_) ?_) ?_) ?_) ?_) ?_) ?_) ?_)) ?_
 ·intro vals ρ w438 X hd h0 st437
  have e439 : ρ 19 = (ii 0) := (h0 19 rfl).trans rfl
  refine W1 (OpT.move (ii 0) e439 ?_)
  refine WL.nil ?_
  exact oneQ.mk ⟨rfl, st437⟩
 ·intro vals ρ w441 X hd h0 st440
  have e442 : ρ 102 = (ii 0) := ((hd 0 rfl).2 102 rfl).trans (hd 0 rfl).1
  refine W1 (OpT.lit (b := (decide ((0 : Int) = (0 : Int)))) (c := true) (by decide) (fun hk => OpT.ieq .i64 (0) (0) e442 rfl hk) ?_)
  refine WL.nil ?_
  exact oneQ.mk ⟨rfl, st440⟩
 ·intro vals ρ w444 X hd h0 st443
  have e445 : ρ 103 = (.bool true) := ((hd 1 rfl).2 103 rfl).trans (hd 1 rfl).1
  refine W1 (OpT.move (.bool true) e445 ?_)
  refine WL.nil ?_
  exact oneQ.mk ⟨rfl, st443⟩
 ·intro vals ρ w447 X hd h0 st446
  have e448 : ρ 17 = (ii (-1)) := (h0 17 rfl).trans hI436.2.2.2.2.1
  have e449 : ρ 104 = (.bool true) := ((hd 2 rfl).2 104 rfl).trans (hd 2 rfl).1
  refine W2 (dj := 104) e449 (OpT.move (ii (-1)) e448 ?_)
  refine WL.nil ?_
  exact oneQ.mk ⟨rfl, st446⟩
 ·intro vals ρ w451 X hd h0 st450
  have e452 : ρ 104 = (.bool true) := ((hd 2 rfl).2 104 rfl).trans (hd 2 rfl).1
  have e453 : ρ 105 = (ii (-1)) := ((hd 3 rfl).2 105 rfl).trans (hd 3 rfl).1
  refine W2 (dj := 104) e452 (OpT.lit (b := (decide ((-1 : Int) < (0 : Int)))) (c := true) (by decide) (fun hk => OpT.ilt .i64 (-1) (0) e453 rfl hk) ?_)
  refine WL.nil ?_
  exact oneQ.mk ⟨rfl, st450⟩
 ·intro vals ρ w455 X hd h0 st454
  have e456 : ρ 104 = (.bool true) := ((hd 2 rfl).2 104 rfl).trans (hd 2 rfl).1
  have e457 : ρ 106 = (.bool true) := ((hd 4 rfl).2 106 rfl).trans (hd 4 rfl).1
  refine W2 (dj := 104) e456 (OpT.move (.bool true) e457 ?_)
  refine WL.nil ?_
  exact oneQ.mk ⟨rfl, st454⟩
 ·intro vals ρ w459 X hd h0 st458
  have e460 : ρ 5 = (sl og15 3 oc16) := (h0 5 rfl).trans hI436.1
  have e461 : ρ 107 = (.bool true) := ((hd 5 rfl).2 107 rfl).trans (hd 5 rfl).1
  refine WL.pass (dj := 107) (c := true) rfl rfl rfl e461 rfl ?_
  refine WL.nil ?_
  exact oneQ.mk ⟨rfl, st458⟩
 ·intro vals ρ w463 X hd h0 st462
  have e464 : ρ 18 = (ii 0) := (h0 18 rfl).trans rfl
  have e465 : ρ 107 = (.bool true) := ((hd 5 rfl).2 107 rfl).trans (hd 5 rfl).1
  refine WL.pass (dj := 107) (c := true) rfl rfl rfl e465 rfl ?_
  refine WL.nil ?_
  exact oneQ.mk ⟨rfl, st462⟩
 ·intro vals ρ w467 X hd h0 st466
  have e468 : ρ 107 = (.bool true) := ((hd 5 rfl).2 107 rfl).trans (hd 5 rfl).1
  have e469 : ρ 108 = undef := ((hd 6 rfl).2 108 rfl).trans (hd 6 rfl).1
  have e470 : ρ 109 = undef := ((hd 7 rfl).2 109 rfl).trans (hd 7 rfl).1
  refine WL.pass (dj := 107) (c := true) rfl rfl rfl e468 rfl ?_
  refine WL.nil ?_
  exact oneQ.mk ⟨rfl, st466⟩
 ·intro vals ρ w472 X hd h0 st471
  have e473 : ρ 107 = (.bool true) := ((hd 5 rfl).2 107 rfl).trans (hd 5 rfl).1
  have e474 : ρ 110 = undef := ((hd 8 rfl).2 110 rfl).trans (hd 8 rfl).1
  refine WL.pass (dj := 107) (c := true) rfl rfl rfl e473 rfl ?_
  refine WL.nil ?_
  exact oneQ.mk ⟨rfl, st471⟩
 ·intro vals ρ w476 X hd h0 st475
  have e477 : ρ 107 = (.bool true) := ((hd 5 rfl).2 107 rfl).trans (hd 5 rfl).1
  have e478 : ρ 111 = undef := ((hd 9 rfl).2 111 rfl).trans (hd 9 rfl).1
  refine WL.pass (dj := 107) (c := true) rfl rfl rfl e477 rfl ?_
  refine WL.nil ?_
  exact oneQ.mk ⟨rfl, st475⟩
 ·intro vals ρ w480 X hd h0 st479
  have e481 : ρ 107 = (.bool true) := ((hd 5 rfl).2 107 rfl).trans (hd 5 rfl).1
  have e482 : ρ 112 = undef := ((hd 10 rfl).2 112 rfl).trans (hd 10 rfl).1
  refine WL.pass (dj := 107) (c := true) rfl rfl rfl e481 rfl ?_
  refine WL.nil ?_
  exact oneQ.mk ⟨rfl, st479⟩
 ·intro vals ρ w484 X hd h0 st483
  have e485 : ρ 5 = (sl og15 3 oc16) := (h0 5 rfl).trans hI436.1
  have e486 : ρ 107 = (.bool true) := ((hd 5 rfl).2 107 rfl).trans (hd 5 rfl).1
  refine WL.pass (dj := 107) (c := true) rfl rfl rfl e486 rfl ?_
  refine WL.nil ?_
  exact oneQ.mk ⟨rfl, st483⟩
 ·intro vals ρ w488 X hd h0 st487
  have e489 : ρ 17 = (ii (-1)) := (h0 17 rfl).trans hI436.2.2.2.2.1
  have e490 : ρ 107 = (.bool true) := ((hd 5 rfl).2 107 rfl).trans (hd 5 rfl).1
  refine WL.pass (dj := 107) (c := true) rfl rfl rfl e490 rfl ?_
  refine WL.nil ?_
  exact oneQ.mk ⟨rfl, st487⟩
 ·intro vals ρ w492 X hd h0 st491
  have e493 : ρ 107 = (.bool true) := ((hd 5 rfl).2 107 rfl).trans (hd 5 rfl).1
  have e494 : ρ 114 = undef := ((hd 12 rfl).2 114 rfl).trans (hd 12 rfl).1
  have e495 : ρ 115 = undef := ((hd 13 rfl).2 115 rfl).trans (hd 13 rfl).1
  refine WL.pass (dj := 107) (c := true) rfl rfl rfl e493 rfl ?_
  refine WL.nil ?_
  exact oneQ.mk ⟨rfl, st491⟩
 ·intro vals ρ w497 X hd h0 st496
  have e498 : ρ 107 = (.bool true) := ((hd 5 rfl).2 107 rfl).trans (hd 5 rfl).1
  have e499 : ρ 116 = undef := ((hd 14 rfl).2 116 rfl).trans (hd 14 rfl).1
  refine WL.pass (dj := 107) (c := true) rfl rfl rfl e498 rfl ?_
  refine WL.nil ?_
  exact oneQ.mk ⟨rfl, st496⟩
 ·intro vals ρ w501 X hd h0 st500
  have e502 : ρ 107 = (.bool true) := ((hd 5 rfl).2 107 rfl).trans (hd 5 rfl).1
  have e503 : ρ 117 = undef := ((hd 15 rfl).2 117 rfl).trans (hd 15 rfl).1
  refine WL.pass (dj := 107) (c := true) rfl rfl rfl e502 rfl ?_
  refine WL.nil ?_
  exact oneQ.mk ⟨rfl, st500⟩
 ·intro vals ρ w505 X hd h0 st504
  have e506 : ρ 107 = (.bool true) := ((hd 5 rfl).2 107 rfl).trans (hd 5 rfl).1
  have e507 : ρ 118 = undef := ((hd 16 rfl).2 118 rfl).trans (hd 16 rfl).1
  refine WL.pass (dj := 107) (c := true) rfl rfl rfl e506 rfl ?_
  refine WL.nil ?_
  exact oneQ.mk ⟨rfl, st504⟩
 ·intro vals ρ w509 X hd h0 st508
  have e510 : ρ 107 = (.bool true) := ((hd 5 rfl).2 107 rfl).trans (hd 5 rfl).1
  have e511 : ρ 113 = undef := ((hd 11 rfl).2 113 rfl).trans (hd 11 rfl).1
  have e512 : ρ 119 = undef := ((hd 17 rfl).2 119 rfl).trans (hd 17 rfl).1
  refine WL.pass (dj := 107) (c := true) rfl rfl rfl e510 rfl ?_
  refine WL.nil ?_
  exact oneQ.mk ⟨rfl, st508⟩
 ·intro vals ρ w514 X hd h0 st513
  have e515 : ρ 104 = (.bool true) := ((hd 2 rfl).2 104 rfl).trans (hd 2 rfl).1
  have e516 : ρ 107 = (.bool true) := ((hd 5 rfl).2 107 rfl).trans (hd 5 rfl).1
  have e517 : ρ 120 = undef := ((hd 18 rfl).2 120 rfl).trans (hd 18 rfl).1
  refine W2 (dj := 104) e515 (OpT.pickT (.bool true) e516 rfl ?_)
  refine WL.nil ?_
  exact oneQ.mk ⟨rfl, st513⟩
 ·intro vals ρ w519 X hd h0 st518
  have e520 : ρ 104 = (.bool true) := ((hd 2 rfl).2 104 rfl).trans (hd 2 rfl).1
  have e521 : ρ 121 = (.bool true) := ((hd 19 rfl).2 121 rfl).trans (hd 19 rfl).1
  refine W1 (OpT.pickT (.bool true) e520 e521 ?_)
  refine WL.nil ?_
  exact oneQ.mk ⟨rfl, st518⟩
 intro vals ρ524 w523 hv h0 st522
 replace st522 : St Z w0 w523 (Blk g382 3 (cx [(ii 2)] ex384) :: Blk g229 3 (cx [(ii 1)] ex231) :: Blk b33 106 [(sl g229 1 cap230), (sl g382 1 cap383), vn] :: Blk b30 3 [(ii 0), (ii 1), (ii 1)] :: Blk og15 68 (cx [(sl p118 1 c119), (sl p221 1 c222), (sl p324 1 c325)] ox17) :: Blk p118 9 (cx [(vs 120)] e120) :: Blk p221 9 (cx [(vs 121)] e223) :: Blk p324 9 (cx [(vs 122)] e326) :: L) := st522
 have e525 : ρ524 5 = (sl og15 3 oc16) := (h0 5 rfl).trans hI436.1
 have e526 : ρ524 6 = (sl b30 3 3) := (h0 6 rfl).trans hI436.2.1
 have e527 : ρ524 7 = (sl b33 3 3) := (h0 7 rfl).trans hI436.2.2.1
 have e528 : ρ524 16 = vn := (h0 16 rfl).trans hI436.2.2.2.1
 have e529 : ρ524 17 = (ii (-1)) := (h0 17 rfl).trans hI436.2.2.2.2.1
 have e530 : ρ524 18 = (ii 0) := (h0 18 rfl).trans rfl
 have e531 : ρ524 92 = (ii 3) := (h0 92 rfl).trans hI436.2.2.2.2.2.1
 have e532 : ρ524 93 = (ii 0) := (h0 93 rfl).trans hI436.2.2.2.2.2.2.1
 have e533 : ρ524 95 = (sl b30 3 3) := (h0 95 rfl).trans hI436.2.2.2.2.2.2.2.1
 have e534 : ρ524 96 = (ii 3) := (h0 96 rfl).trans hI436.2.2.2.2.2.2.2.2.1
 have e535 : ρ524 97 = (ii 0) := (h0 97 rfl).trans hI436.2.2.2.2.2.2.2.2.2
 have e536 : ρ524 122 = (.bool true) := ((hv 20 rfl).2 122 rfl).trans (hv 20 rfl).1
 clear hv h0
 refine Wnt ?_
 refine WC.condT e536 ?_
 refine WC.region ?_
 refine W1 (OpT.move (ii 0) e530 ?_)
 refine W1 (OpT.assign (ii 0) rfl ?_)
 refine WL.nil ?_
 refine blkQ_n ?_
 refine thenQ_n ?_
 refine WC.region ?_
 refine W1 (OpT.iadd .i64 (0) (1) (1) e535 rfl (by decide) ?_)
 refine W1 (OpT.move (ii 1) rfl ?_)
 refine WL.nil ?_
 refine unrQ_n ?_
 refine UL.cut (fun r => r 5 = (sl og15 3 oc16) ∧ r 6 = (sl b30 3 3) ∧ r 7 = (sl b33 3 3) ∧ r 16 = vn ∧ r 17 = (ii 0) ∧ r 92 = (ii 3) ∧ r 93 = (ii 0) ∧ r 95 = (sl b30 3 3) ∧ r 96 = (ii 3) ∧ r 97 = (ii 1)) ⟨e525, e526, e527, e528, rfl, e531, e532, e533, e534, rfl⟩ ?_
 intro ρ537 hI548
 refine UL.go ?_
 refine Wsr ?_
 refine W1 (OpT.lit (b := (decide ((1 : Int) < (3 : Int)))) (c := true) (by decide) (fun hk => OpT.ilt .i64 (1) (3) hI548.2.2.2.2.2.2.2.2.2 hI548.2.2.2.2.2.2.2.2.1 hk) ?_)
 refine Wnt ?_
 refine WC.seq ?_
 refine WC.condT rfl ?_
 refine WC.skip ?_
 refine thenQ_n ?_
 refine WC.seq ?_
 refine WC.block ?_
 refine Wsr ?_
 refine W1 (OpT.move (ii 1) hI548.2.2.2.2.2.2.2.2.2 ?_)
 refine W1 (OpT.idx 1 ⟨b30, 0, none⟩ ⟨b30, 1, none⟩ 3 3 .i64 1 tu106 ts3 hI548.2.2.2.2.2.2.2.1 hI548.2.2.2.2.2.2.2.2.2 (by decide) (by decide) rfl ?_)
 refine W1 (OpT.loadS ⟨b30, 1, none⟩ (ii 1) ta3 rfl (st522.cellB (i := 3) rfl rfl) ?_)
 refine W1 (OpT.assign (ii 1) rfl ?_)
 refine W1 (OpT.assign (ii 1) rfl ?_)
 refine Wnt ?_
 refine WC.seq ?_
 refine WC.draw 21 (fun jj vv => match jj with | 0 => vv = (ii 1) | 1 => vv = (.bool false) | 2 => vv = (.bool false) | 3 => vv = undef | 4 => vv = undef | 5 => vv = undef | 6 => vv = undef | 7 => vv = undef | 8 => vv = undef | 9 => vv = undef | 10 => vv = undef | 11 => vv = undef | 12 => vv = undef | 13 => vv = undef | 14 => vv = undef | 15 => vv = undef | 16 => vv = undef | 17 => vv = undef | 18 => vv = undef | 19 => vv = undef | 20 => vv = (.bool false) | _ => True) (fun _ _ => []) st522 fmix (by kernel_rfl) ((obS (obS (obS (obS (obS (obS (obS (obS (obS (obS (obS (obS (obS (obS (obS (obS (obS (obS (obS (obS (obS ob0 ?_) ?_) ?_) ?_) ?_) ?_) ?_) ?_) ?_) ?_) ?_) ?_) ?_) ?_) ?_) ?_) ?_) ?_) ?_) ?_) ?_)) ?_
 ·intro vals ρ w550 X hd h0 st549
  have e551 : ρ 19 = (ii 1) := (h0 19 rfl).trans rfl
  refine W1 (OpT.move (ii 1) e551 ?_)
  refine WL.nil ?_
  exact oneQ.mk ⟨rfl, st549⟩
 ·intro vals ρ w553 X hd h0 st552
  have e554 : ρ 102 = (ii 1) := ((hd 0 rfl).2 102 rfl).trans (hd 0 rfl).1
  refine W1 (OpT.lit (b := (decide ((1 : Int) = (0 : Int)))) (c := false) (by decide) (fun hk => OpT.ieq .i64 (1) (0) e554 rfl hk) ?_)
  refine WL.nil ?_
  exact oneQ.mk ⟨rfl, st552⟩
 ·intro vals ρ w556 X hd h0 st555
  have e557 : ρ 103 = (.bool false) := ((hd 1 rfl).2 103 rfl).trans (hd 1 rfl).1
  refine W1 (OpT.move (.bool false) e557 ?_)
  refine WL.nil ?_
  exact oneQ.mk ⟨rfl, st555⟩
 ·intro vals ρ w559 X hd h0 st558
  have e560 : ρ 17 = (ii 0) := (h0 17 rfl).trans hI548.2.2.2.2.1
  have e561 : ρ 104 = (.bool false) := ((hd 2 rfl).2 104 rfl).trans (hd 2 rfl).1
  refine WL.pass (dj := 104) (c := false) rfl rfl rfl e561 rfl ?_
  refine WL.nil ?_
  exact oneQ.mk ⟨rfl, st558⟩
 ·intro vals ρ w563 X hd h0 st562
  have e564 : ρ 104 = (.bool false) := ((hd 2 rfl).2 104 rfl).trans (hd 2 rfl).1
  have e565 : ρ 105 = undef := ((hd 3 rfl).2 105 rfl).trans (hd 3 rfl).1
  refine WL.pass (dj := 104) (c := false) rfl rfl rfl e564 rfl ?_
  refine WL.nil ?_
  exact oneQ.mk ⟨rfl, st562⟩
 ·intro vals ρ w567 X hd h0 st566
  have e568 : ρ 104 = (.bool false) := ((hd 2 rfl).2 104 rfl).trans (hd 2 rfl).1
  have e569 : ρ 106 = undef := ((hd 4 rfl).2 106 rfl).trans (hd 4 rfl).1
  refine WL.pass (dj := 104) (c := false) rfl rfl rfl e568 rfl ?_
  refine WL.nil ?_
  exact oneQ.mk ⟨rfl, st566⟩
 ·intro vals ρ w571 X hd h0 st570
  have e572 : ρ 5 = (sl og15 3 oc16) := (h0 5 rfl).trans hI548.1
  have e573 : ρ 107 = undef := ((hd 5 rfl).2 107 rfl).trans (hd 5 rfl).1
  refine WL.passU (dj := 107) rfl rfl e573 ?_
  refine WL.nil ?_
  exact oneQ.mk ⟨rfl, st570⟩
 ·intro vals ρ w575 X hd h0 st574
  have e576 : ρ 18 = (ii 1) := (h0 18 rfl).trans rfl
  have e577 : ρ 107 = undef := ((hd 5 rfl).2 107 rfl).trans (hd 5 rfl).1
  refine WL.passU (dj := 107) rfl rfl e577 ?_
  refine WL.nil ?_
  exact oneQ.mk ⟨rfl, st574⟩
 ·intro vals ρ w579 X hd h0 st578
  have e580 : ρ 107 = undef := ((hd 5 rfl).2 107 rfl).trans (hd 5 rfl).1
  have e581 : ρ 108 = undef := ((hd 6 rfl).2 108 rfl).trans (hd 6 rfl).1
  have e582 : ρ 109 = undef := ((hd 7 rfl).2 109 rfl).trans (hd 7 rfl).1
  refine WL.passU (dj := 107) rfl rfl e580 ?_
  refine WL.nil ?_
  exact oneQ.mk ⟨rfl, st578⟩
 ·intro vals ρ w584 X hd h0 st583
  have e585 : ρ 107 = undef := ((hd 5 rfl).2 107 rfl).trans (hd 5 rfl).1
  have e586 : ρ 110 = undef := ((hd 8 rfl).2 110 rfl).trans (hd 8 rfl).1
  refine WL.passU (dj := 107) rfl rfl e585 ?_
  refine WL.nil ?_
  exact oneQ.mk ⟨rfl, st583⟩
 ·intro vals ρ w588 X hd h0 st587
  have e589 : ρ 107 = undef := ((hd 5 rfl).2 107 rfl).trans (hd 5 rfl).1
  have e590 : ρ 111 = undef := ((hd 9 rfl).2 111 rfl).trans (hd 9 rfl).1
  refine WL.passU (dj := 107) rfl rfl e589 ?_
  refine WL.nil ?_
  exact oneQ.mk ⟨rfl, st587⟩
 ·intro vals ρ w592 X hd h0 st591
  have e593 : ρ 107 = undef := ((hd 5 rfl).2 107 rfl).trans (hd 5 rfl).1
  have e594 : ρ 112 = undef := ((hd 10 rfl).2 112 rfl).trans (hd 10 rfl).1
  refine WL.passU (dj := 107) rfl rfl e593 ?_
  refine WL.nil ?_
  exact oneQ.mk ⟨rfl, st591⟩
 ·intro vals ρ w596 X hd h0 st595
  have e597 : ρ 5 = (sl og15 3 oc16) := (h0 5 rfl).trans hI548.1
  have e598 : ρ 107 = undef := ((hd 5 rfl).2 107 rfl).trans (hd 5 rfl).1
  refine WL.passU (dj := 107) rfl rfl e598 ?_
  refine WL.nil ?_
  exact oneQ.mk ⟨rfl, st595⟩
 ·intro vals ρ w600 X hd h0 st599
  have e601 : ρ 17 = (ii 0) := (h0 17 rfl).trans hI548.2.2.2.2.1
  have e602 : ρ 107 = undef := ((hd 5 rfl).2 107 rfl).trans (hd 5 rfl).1
  refine WL.passU (dj := 107) rfl rfl e602 ?_
  refine WL.nil ?_
  exact oneQ.mk ⟨rfl, st599⟩
 ·intro vals ρ w604 X hd h0 st603
  have e605 : ρ 107 = undef := ((hd 5 rfl).2 107 rfl).trans (hd 5 rfl).1
  have e606 : ρ 114 = undef := ((hd 12 rfl).2 114 rfl).trans (hd 12 rfl).1
  have e607 : ρ 115 = undef := ((hd 13 rfl).2 115 rfl).trans (hd 13 rfl).1
  refine WL.passU (dj := 107) rfl rfl e605 ?_
  refine WL.nil ?_
  exact oneQ.mk ⟨rfl, st603⟩
 ·intro vals ρ w609 X hd h0 st608
  have e610 : ρ 107 = undef := ((hd 5 rfl).2 107 rfl).trans (hd 5 rfl).1
  have e611 : ρ 116 = undef := ((hd 14 rfl).2 116 rfl).trans (hd 14 rfl).1
  refine WL.passU (dj := 107) rfl rfl e610 ?_
  refine WL.nil ?_
  exact oneQ.mk ⟨rfl, st608⟩
 ·intro vals ρ w613 X hd h0 st612
  have e614 : ρ 107 = undef := ((hd 5 rfl).2 107 rfl).trans (hd 5 rfl).1
  have e615 : ρ 117 = undef := ((hd 15 rfl).2 117 rfl).trans (hd 15 rfl).1
  refine WL.passU (dj := 107) rfl rfl e614 ?_
  refine WL.nil ?_
  exact oneQ.mk ⟨rfl, st612⟩
 ·intro vals ρ w617 X hd h0 st616
  have e618 : ρ 107 = undef := ((hd 5 rfl).2 107 rfl).trans (hd 5 rfl).1
  have e619 : ρ 118 = undef := ((hd 16 rfl).2 118 rfl).trans (hd 16 rfl).1
  refine WL.passU (dj := 107) rfl rfl e618 ?_
  refine WL.nil ?_
  exact oneQ.mk ⟨rfl, st616⟩
 ·intro vals ρ w621 X hd h0 st620
  have e622 : ρ 107 = undef := ((hd 5 rfl).2 107 rfl).trans (hd 5 rfl).1
  have e623 : ρ 113 = undef := ((hd 11 rfl).2 113 rfl).trans (hd 11 rfl).1
  have e624 : ρ 119 = undef := ((hd 17 rfl).2 119 rfl).trans (hd 17 rfl).1
  refine WL.passU (dj := 107) rfl rfl e622 ?_
  refine WL.nil ?_
  exact oneQ.mk ⟨rfl, st620⟩
 ·intro vals ρ w626 X hd h0 st625
  have e627 : ρ 104 = (.bool false) := ((hd 2 rfl).2 104 rfl).trans (hd 2 rfl).1
  have e628 : ρ 107 = undef := ((hd 5 rfl).2 107 rfl).trans (hd 5 rfl).1
  have e629 : ρ 120 = undef := ((hd 18 rfl).2 120 rfl).trans (hd 18 rfl).1
  refine WL.pass (dj := 104) (c := false) rfl rfl rfl e627 rfl ?_
  refine WL.nil ?_
  exact oneQ.mk ⟨rfl, st625⟩
 ·intro vals ρ w631 X hd h0 st630
  have e632 : ρ 104 = (.bool false) := ((hd 2 rfl).2 104 rfl).trans (hd 2 rfl).1
  have e633 : ρ 121 = undef := ((hd 19 rfl).2 121 rfl).trans (hd 19 rfl).1
  refine W1 (OpT.pickF (.bool false) e632 rfl ?_)
  refine WL.nil ?_
  exact oneQ.mk ⟨rfl, st630⟩
 intro vals ρ636 w635 hv h0 st634
 replace st634 : St Z w0 w635 (Blk g382 3 (cx [(ii 2)] ex384) :: Blk g229 3 (cx [(ii 1)] ex231) :: Blk b33 106 [(sl g229 1 cap230), (sl g382 1 cap383), vn] :: Blk b30 3 [(ii 0), (ii 1), (ii 1)] :: Blk og15 68 (cx [(sl p118 1 c119), (sl p221 1 c222), (sl p324 1 c325)] ox17) :: Blk p118 9 (cx [(vs 120)] e120) :: Blk p221 9 (cx [(vs 121)] e223) :: Blk p324 9 (cx [(vs 122)] e326) :: L) := st634
 have e637 : ρ636 5 = (sl og15 3 oc16) := (h0 5 rfl).trans hI548.1
 have e638 : ρ636 6 = (sl b30 3 3) := (h0 6 rfl).trans hI548.2.1
 have e639 : ρ636 7 = (sl b33 3 3) := (h0 7 rfl).trans hI548.2.2.1
 have e640 : ρ636 16 = vn := (h0 16 rfl).trans hI548.2.2.2.1
 have e641 : ρ636 17 = (ii 0) := (h0 17 rfl).trans hI548.2.2.2.2.1
 have e642 : ρ636 18 = (ii 1) := (h0 18 rfl).trans rfl
 have e643 : ρ636 92 = (ii 3) := (h0 92 rfl).trans hI548.2.2.2.2.2.1
 have e644 : ρ636 93 = (ii 0) := (h0 93 rfl).trans hI548.2.2.2.2.2.2.1
 have e645 : ρ636 95 = (sl b30 3 3) := (h0 95 rfl).trans hI548.2.2.2.2.2.2.2.1
 have e646 : ρ636 96 = (ii 3) := (h0 96 rfl).trans hI548.2.2.2.2.2.2.2.2.1
 have e647 : ρ636 97 = (ii 1) := (h0 97 rfl).trans hI548.2.2.2.2.2.2.2.2.2
 have e648 : ρ636 122 = (.bool false) := ((hv 20 rfl).2 122 rfl).trans (hv 20 rfl).1
 clear hv h0
 refine Wnt ?_
 refine WC.condF e648 ?_
 refine WC.skip ?_
 refine blkQ_n ?_
 refine thenQ_n ?_
 refine WC.region ?_
 refine W1 (OpT.iadd .i64 (1) (1) (2) e647 rfl (by decide) ?_)
 refine W1 (OpT.move (ii 2) rfl ?_)
 refine WL.nil ?_
 refine unrQ_n ?_
 refine UL.cut (fun r => r 5 = (sl og15 3 oc16) ∧ r 6 = (sl b30 3 3) ∧ r 7 = (sl b33 3 3) ∧ r 16 = vn ∧ r 17 = (ii 0) ∧ r 92 = (ii 3) ∧ r 93 = (ii 0) ∧ r 95 = (sl b30 3 3) ∧ r 96 = (ii 3) ∧ r 97 = (ii 2)) ⟨e637, e638, e639, e640, e641, e643, e644, e645, e646, rfl⟩ ?_
 intro ρ649 hI660
 refine UL.go ?_
 refine Wsr ?_
 refine W1 (OpT.lit (b := (decide ((2 : Int) < (3 : Int)))) (c := true) (by decide) (fun hk => OpT.ilt .i64 (2) (3) hI660.2.2.2.2.2.2.2.2.2 hI660.2.2.2.2.2.2.2.2.1 hk) ?_)
 refine Wnt ?_
 refine WC.seq ?_
 refine WC.condT rfl ?_
 refine WC.skip ?_
 refine thenQ_n ?_
 refine WC.seq ?_
 refine WC.block ?_
 refine Wsr ?_
 refine W1 (OpT.move (ii 2) hI660.2.2.2.2.2.2.2.2.2 ?_)
 refine W1 (OpT.idx 1 ⟨b30, 0, none⟩ ⟨b30, 2, none⟩ 3 3 .i64 2 tu106 ts3 hI660.2.2.2.2.2.2.2.1 hI660.2.2.2.2.2.2.2.2.2 (by decide) (by decide) rfl ?_)
 refine W1 (OpT.loadS ⟨b30, 2, none⟩ (ii 1) ta3 rfl (st634.cellB (i := 3) rfl rfl) ?_)
 refine W1 (OpT.assign (ii 2) rfl ?_)
 refine W1 (OpT.assign (ii 1) rfl ?_)
 refine Wnt ?_
 refine WC.seq ?_
 refine WC.draw 21 (fun jj vv => match jj with | 0 => vv = (ii 1) | 1 => vv = (.bool false) | 2 => vv = (.bool false) | 3 => vv = undef | 4 => vv = undef | 5 => vv = undef | 6 => vv = undef | 7 => vv = undef | 8 => vv = undef | 9 => vv = undef | 10 => vv = undef | 11 => vv = undef | 12 => vv = undef | 13 => vv = undef | 14 => vv = undef | 15 => vv = undef | 16 => vv = undef | 17 => vv = undef | 18 => vv = undef | 19 => vv = undef | 20 => vv = (.bool false) | _ => True) (fun _ _ => []) st634 fmix (by kernel_rfl) ((obS (obS (obS (obS (obS (obS (obS (obS (obS (obS (obS (obS (obS (obS (obS (obS (obS (obS (obS (obS (obS ob0 ?_) ?_) ?_) ?_) ?_) ?_) ?_) ?_) ?_) ?_) ?_) ?_) ?_) ?_) ?_) ?_) ?_) ?_) ?_) ?_) ?_)) ?_
 ·intro vals ρ w662 X hd h0 st661
  have e663 : ρ 19 = (ii 1) := (h0 19 rfl).trans rfl
  refine W1 (OpT.move (ii 1) e663 ?_)
  refine WL.nil ?_
  exact oneQ.mk ⟨rfl, st661⟩
 ·intro vals ρ w665 X hd h0 st664
  have e666 : ρ 102 = (ii 1) := ((hd 0 rfl).2 102 rfl).trans (hd 0 rfl).1
  refine W1 (OpT.lit (b := (decide ((1 : Int) = (0 : Int)))) (c := false) (by decide) (fun hk => OpT.ieq .i64 (1) (0) e666 rfl hk) ?_)
  refine WL.nil ?_
  exact oneQ.mk ⟨rfl, st664⟩
 ·intro vals ρ w668 X hd h0 st667
  have e669 : ρ 103 = (.bool false) := ((hd 1 rfl).2 103 rfl).trans (hd 1 rfl).1
  refine W1 (OpT.move (.bool false) e669 ?_)
  refine WL.nil ?_
  exact oneQ.mk ⟨rfl, st667⟩
 ·intro vals ρ w671 X hd h0 st670
  have e672 : ρ 17 = (ii 0) := (h0 17 rfl).trans hI660.2.2.2.2.1
  have e673 : ρ 104 = (.bool false) := ((hd 2 rfl).2 104 rfl).trans (hd 2 rfl).1
  refine WL.pass (dj := 104) (c := false) rfl rfl rfl e673 rfl ?_
  refine WL.nil ?_
  exact oneQ.mk ⟨rfl, st670⟩
 ·intro vals ρ w675 X hd h0 st674
  have e676 : ρ 104 = (.bool false) := ((hd 2 rfl).2 104 rfl).trans (hd 2 rfl).1
  have e677 : ρ 105 = undef := ((hd 3 rfl).2 105 rfl).trans (hd 3 rfl).1
  refine WL.pass (dj := 104) (c := false) rfl rfl rfl e676 rfl ?_
  refine WL.nil ?_
  exact oneQ.mk ⟨rfl, st674⟩
 ·intro vals ρ w679 X hd h0 st678
  have e680 : ρ 104 = (.bool false) := ((hd 2 rfl).2 104 rfl).trans (hd 2 rfl).1
  have e681 : ρ 106 = undef := ((hd 4 rfl).2 106 rfl).trans (hd 4 rfl).1
  refine WL.pass (dj := 104) (c := false) rfl rfl rfl e680 rfl ?_
  refine WL.nil ?_
  exact oneQ.mk ⟨rfl, st678⟩
 ·intro vals ρ w683 X hd h0 st682
  have e684 : ρ 5 = (sl og15 3 oc16) := (h0 5 rfl).trans hI660.1
  have e685 : ρ 107 = undef := ((hd 5 rfl).2 107 rfl).trans (hd 5 rfl).1
  refine WL.passU (dj := 107) rfl rfl e685 ?_
  refine WL.nil ?_
  exact oneQ.mk ⟨rfl, st682⟩
 ·intro vals ρ w687 X hd h0 st686
  have e688 : ρ 18 = (ii 2) := (h0 18 rfl).trans rfl
  have e689 : ρ 107 = undef := ((hd 5 rfl).2 107 rfl).trans (hd 5 rfl).1
  refine WL.passU (dj := 107) rfl rfl e689 ?_
  refine WL.nil ?_
  exact oneQ.mk ⟨rfl, st686⟩
 ·intro vals ρ w691 X hd h0 st690
  have e692 : ρ 107 = undef := ((hd 5 rfl).2 107 rfl).trans (hd 5 rfl).1
  have e693 : ρ 108 = undef := ((hd 6 rfl).2 108 rfl).trans (hd 6 rfl).1
  have e694 : ρ 109 = undef := ((hd 7 rfl).2 109 rfl).trans (hd 7 rfl).1
  refine WL.passU (dj := 107) rfl rfl e692 ?_
  refine WL.nil ?_
  exact oneQ.mk ⟨rfl, st690⟩
 ·intro vals ρ w696 X hd h0 st695
  have e697 : ρ 107 = undef := ((hd 5 rfl).2 107 rfl).trans (hd 5 rfl).1
  have e698 : ρ 110 = undef := ((hd 8 rfl).2 110 rfl).trans (hd 8 rfl).1
  refine WL.passU (dj := 107) rfl rfl e697 ?_
  refine WL.nil ?_
  exact oneQ.mk ⟨rfl, st695⟩
 ·intro vals ρ w700 X hd h0 st699
  have e701 : ρ 107 = undef := ((hd 5 rfl).2 107 rfl).trans (hd 5 rfl).1
  have e702 : ρ 111 = undef := ((hd 9 rfl).2 111 rfl).trans (hd 9 rfl).1
  refine WL.passU (dj := 107) rfl rfl e701 ?_
  refine WL.nil ?_
  exact oneQ.mk ⟨rfl, st699⟩
 ·intro vals ρ w704 X hd h0 st703
  have e705 : ρ 107 = undef := ((hd 5 rfl).2 107 rfl).trans (hd 5 rfl).1
  have e706 : ρ 112 = undef := ((hd 10 rfl).2 112 rfl).trans (hd 10 rfl).1
  refine WL.passU (dj := 107) rfl rfl e705 ?_
  refine WL.nil ?_
  exact oneQ.mk ⟨rfl, st703⟩
 ·intro vals ρ w708 X hd h0 st707
  have e709 : ρ 5 = (sl og15 3 oc16) := (h0 5 rfl).trans hI660.1
  have e710 : ρ 107 = undef := ((hd 5 rfl).2 107 rfl).trans (hd 5 rfl).1
  refine WL.passU (dj := 107) rfl rfl e710 ?_
  refine WL.nil ?_
  exact oneQ.mk ⟨rfl, st707⟩
 ·intro vals ρ w712 X hd h0 st711
  have e713 : ρ 17 = (ii 0) := (h0 17 rfl).trans hI660.2.2.2.2.1
  have e714 : ρ 107 = undef := ((hd 5 rfl).2 107 rfl).trans (hd 5 rfl).1
  refine WL.passU (dj := 107) rfl rfl e714 ?_
  refine WL.nil ?_
  exact oneQ.mk ⟨rfl, st711⟩
 ·intro vals ρ w716 X hd h0 st715
  have e717 : ρ 107 = undef := ((hd 5 rfl).2 107 rfl).trans (hd 5 rfl).1
  have e718 : ρ 114 = undef := ((hd 12 rfl).2 114 rfl).trans (hd 12 rfl).1
  have e719 : ρ 115 = undef := ((hd 13 rfl).2 115 rfl).trans (hd 13 rfl).1
  refine WL.passU (dj := 107) rfl rfl e717 ?_
  refine WL.nil ?_
  exact oneQ.mk ⟨rfl, st715⟩
 ·intro vals ρ w721 X hd h0 st720
  have e722 : ρ 107 = undef := ((hd 5 rfl).2 107 rfl).trans (hd 5 rfl).1
  have e723 : ρ 116 = undef := ((hd 14 rfl).2 116 rfl).trans (hd 14 rfl).1
  refine WL.passU (dj := 107) rfl rfl e722 ?_
  refine WL.nil ?_
  exact oneQ.mk ⟨rfl, st720⟩
 ·intro vals ρ w725 X hd h0 st724
  have e726 : ρ 107 = undef := ((hd 5 rfl).2 107 rfl).trans (hd 5 rfl).1
  have e727 : ρ 117 = undef := ((hd 15 rfl).2 117 rfl).trans (hd 15 rfl).1
  refine WL.passU (dj := 107) rfl rfl e726 ?_
  refine WL.nil ?_
  exact oneQ.mk ⟨rfl, st724⟩
 ·intro vals ρ w729 X hd h0 st728
  have e730 : ρ 107 = undef := ((hd 5 rfl).2 107 rfl).trans (hd 5 rfl).1
  have e731 : ρ 118 = undef := ((hd 16 rfl).2 118 rfl).trans (hd 16 rfl).1
  refine WL.passU (dj := 107) rfl rfl e730 ?_
  refine WL.nil ?_
  exact oneQ.mk ⟨rfl, st728⟩
 ·intro vals ρ w733 X hd h0 st732
  have e734 : ρ 107 = undef := ((hd 5 rfl).2 107 rfl).trans (hd 5 rfl).1
  have e735 : ρ 113 = undef := ((hd 11 rfl).2 113 rfl).trans (hd 11 rfl).1
  have e736 : ρ 119 = undef := ((hd 17 rfl).2 119 rfl).trans (hd 17 rfl).1
  refine WL.passU (dj := 107) rfl rfl e734 ?_
  refine WL.nil ?_
  exact oneQ.mk ⟨rfl, st732⟩
 ·intro vals ρ w738 X hd h0 st737
  have e739 : ρ 104 = (.bool false) := ((hd 2 rfl).2 104 rfl).trans (hd 2 rfl).1
  have e740 : ρ 107 = undef := ((hd 5 rfl).2 107 rfl).trans (hd 5 rfl).1
  have e741 : ρ 120 = undef := ((hd 18 rfl).2 120 rfl).trans (hd 18 rfl).1
  refine WL.pass (dj := 104) (c := false) rfl rfl rfl e739 rfl ?_
  refine WL.nil ?_
  exact oneQ.mk ⟨rfl, st737⟩
 ·intro vals ρ w743 X hd h0 st742
  have e744 : ρ 104 = (.bool false) := ((hd 2 rfl).2 104 rfl).trans (hd 2 rfl).1
  have e745 : ρ 121 = undef := ((hd 19 rfl).2 121 rfl).trans (hd 19 rfl).1
  refine W1 (OpT.pickF (.bool false) e744 rfl ?_)
  refine WL.nil ?_
  exact oneQ.mk ⟨rfl, st742⟩
 intro vals ρ748 w747 hv h0 st746
 replace st746 : St Z w0 w747 (Blk g382 3 (cx [(ii 2)] ex384) :: Blk g229 3 (cx [(ii 1)] ex231) :: Blk b33 106 [(sl g229 1 cap230), (sl g382 1 cap383), vn] :: Blk b30 3 [(ii 0), (ii 1), (ii 1)] :: Blk og15 68 (cx [(sl p118 1 c119), (sl p221 1 c222), (sl p324 1 c325)] ox17) :: Blk p118 9 (cx [(vs 120)] e120) :: Blk p221 9 (cx [(vs 121)] e223) :: Blk p324 9 (cx [(vs 122)] e326) :: L) := st746
 have e749 : ρ748 5 = (sl og15 3 oc16) := (h0 5 rfl).trans hI660.1
 have e750 : ρ748 6 = (sl b30 3 3) := (h0 6 rfl).trans hI660.2.1
 have e751 : ρ748 7 = (sl b33 3 3) := (h0 7 rfl).trans hI660.2.2.1
 have e752 : ρ748 16 = vn := (h0 16 rfl).trans hI660.2.2.2.1
 have e753 : ρ748 17 = (ii 0) := (h0 17 rfl).trans hI660.2.2.2.2.1
 have e754 : ρ748 18 = (ii 2) := (h0 18 rfl).trans rfl
 have e755 : ρ748 92 = (ii 3) := (h0 92 rfl).trans hI660.2.2.2.2.2.1
 have e756 : ρ748 93 = (ii 0) := (h0 93 rfl).trans hI660.2.2.2.2.2.2.1
 have e757 : ρ748 95 = (sl b30 3 3) := (h0 95 rfl).trans hI660.2.2.2.2.2.2.2.1
 have e758 : ρ748 96 = (ii 3) := (h0 96 rfl).trans hI660.2.2.2.2.2.2.2.2.1
 have e759 : ρ748 97 = (ii 2) := (h0 97 rfl).trans hI660.2.2.2.2.2.2.2.2.2
 have e760 : ρ748 122 = (.bool false) := ((hv 20 rfl).2 122 rfl).trans (hv 20 rfl).1
 clear hv h0
 refine Wnt ?_
 refine WC.condF e760 ?_
 refine WC.skip ?_
 refine blkQ_n ?_
 refine thenQ_n ?_
 refine WC.region ?_
 refine W1 (OpT.iadd .i64 (2) (1) (3) e759 rfl (by decide) ?_)
 refine W1 (OpT.move (ii 3) rfl ?_)
 refine WL.nil ?_
 refine unrQ_n ?_
 refine UL.cut (fun r => r 5 = (sl og15 3 oc16) ∧ r 6 = (sl b30 3 3) ∧ r 7 = (sl b33 3 3) ∧ r 16 = vn ∧ r 17 = (ii 0) ∧ r 92 = (ii 3) ∧ r 93 = (ii 0) ∧ r 95 = (sl b30 3 3) ∧ r 96 = (ii 3) ∧ r 97 = (ii 3)) ⟨e749, e750, e751, e752, e753, e755, e756, e757, e758, rfl⟩ ?_
 intro ρ761 hI772
 refine UL.go ?_
 refine Wsr ?_
 refine W1 (OpT.lit (b := (decide ((3 : Int) < (3 : Int)))) (c := false) (by decide) (fun hk => OpT.ilt .i64 (3) (3) hI772.2.2.2.2.2.2.2.2.2 hI772.2.2.2.2.2.2.2.2.1 hk) ?_)
 refine Wnt ?_
 refine WC.seq ?_
 refine WC.condF rfl ?_
 refine WC.exit ?_
 refine thenQ_x ?_
 refine unrQ_x ?_
 refine blkQ_hit ?_
 refine thenQ_n ?_
 refine Wsr ?_
 refine W1 (OpT.move (sl b30 3 3) hI772.2.1 ?_)
 refine W1 (OpT.move (ii 0) hI772.2.2.2.2.1 ?_)
 refine W1 (OpT.idx 1 ⟨b30, 0, none⟩ ⟨b30, 0, none⟩ 3 3 .i64 0 tu106 ts3 rfl rfl (by decide) (by decide) rfl ?_)
 refine WL.stepN (OpT.storeS st746 3 (ii (-1)) rfl ts3 rfl rfl rfl rfl rfl (fun w773 st774 => ?_))
 refine Wnt ?_
 refine WC.seq ?_
 refine Wsr ?_
 refine W1 (OpT.move (sl b33 3 3) hI772.2.2.1 ?_)
 refine W1 (OpT.move (ii 0) hI772.2.2.2.2.1 ?_)
 refine W1 (OpT.idx 1 ⟨b33, 0, none⟩ ⟨b33, 0, none⟩ 3 3 .i64 0 tu107 ts106 rfl rfl (by decide) (by decide) rfl ?_)
 refine W1 (OpT.loadS ⟨b33, 0, none⟩ (sl g229 1 cap230) ta106 rfl (st774.cellB (i := 2) rfl rfl) ?_)
 refine W1 (OpT.litV (v := (ni 1)) (v' := (ii 1)) rfl (fun hk => OpT.lenS _ 1 cap230 rfl tu106 rfl hk) ?_)
 refine W1 (OpT.move (ii 0) rfl ?_)
 refine Wnt ?_
 refine WC.block ?_
 refine WC.unroll 12 ?_
 refine UL.cut (fun r => r 5 = (sl og15 3 oc16) ∧ r 6 = (sl b30 3 3) ∧ r 7 = (sl b33 3 3) ∧ r 16 = vn ∧ r 17 = (ii 0) ∧ r 92 = (ii 3) ∧ r 93 = (ii 0) ∧ r 131 = (sl g229 1 cap230) ∧ r 132 = (ii 1) ∧ r 133 = (ii 0)) ⟨hI772.1, hI772.2.1, hI772.2.2.1, hI772.2.2.2.1, hI772.2.2.2.2.1, hI772.2.2.2.2.2.1, hI772.2.2.2.2.2.2.1, rfl, rfl, rfl⟩ ?_
 intro ρ775 hI786
 refine UL.go ?_
 refine Wsr ?_
 refine W1 (OpT.lit (b := (decide ((0 : Int) < (1 : Int)))) (c := true) (by decide) (fun hk => OpT.ilt .i64 (0) (1) hI786.2.2.2.2.2.2.2.2.2 hI786.2.2.2.2.2.2.2.2.1 hk) ?_)
 refine Wnt ?_
 refine WC.seq ?_
 refine WC.condT rfl ?_
 refine WC.skip ?_
 refine thenQ_n ?_
 refine WC.seq ?_
 refine WC.block ?_
 refine Wsr ?_
 refine W1 (OpT.idx 1 ⟨g229, 0, none⟩ ⟨g229, 0, none⟩ 1 cap230 .i64 0 tu106 ts3 hI786.2.2.2.2.2.2.2.1 hI786.2.2.2.2.2.2.2.2.2 (by decide) (by decide) rfl ?_)
 refine W1 (OpT.loadS ⟨g229, 0, none⟩ (ii 1) ta3 rfl (st774.cellB (i := 1) rfl rfl) ?_)
 refine W1 (OpT.assign (ii 1) rfl ?_)
 refine Wnr ?_
 refine W1 (OpT.move (sl b30 3 3) hI786.2.1 ?_)
 refine W1 (OpT.move (ii 1) rfl ?_)
 refine W1 (OpT.idx 1 ⟨b30, 0, none⟩ ⟨b30, 1, none⟩ 3 3 .i64 1 tu106 ts3 rfl rfl (by decide) (by decide) rfl ?_)
 refine W1 (OpT.loadS ⟨b30, 1, none⟩ (ii 1) ta3 rfl (st774.cellB (i := 3) rfl rfl) ?_)
 refine W1 (OpT.isub .i64 (1) (1) (0) rfl rfl (by decide) ?_)
 refine W1 (OpT.idx 1 ⟨b30, 0, none⟩ ⟨b30, 1, none⟩ 3 3 .i64 1 tu106 ts3 rfl rfl (by decide) (by decide) rfl ?_)
 refine WL.stepN (OpT.storeS st774 3 (ii 0) rfl ts3 rfl rfl rfl rfl rfl (fun w787 st788 => ?_))
 refine WL.nil ?_
 refine blkQ_n ?_
 refine thenQ_n ?_
 refine WC.region ?_
 refine W1 (OpT.iadd .i64 (0) (1) (1) hI786.2.2.2.2.2.2.2.2.2 rfl (by decide) ?_)
 refine W1 (OpT.move (ii 1) rfl ?_)
 refine WL.nil ?_
 refine unrQ_n ?_
 refine UL.cut (fun r => r 5 = (sl og15 3 oc16) ∧ r 6 = (sl b30 3 3) ∧ r 7 = (sl b33 3 3) ∧ r 16 = vn ∧ r 17 = (ii 0) ∧ r 92 = (ii 3) ∧ r 93 = (ii 0) ∧ r 131 = (sl g229 1 cap230) ∧ r 132 = (ii 1) ∧ r 133 = (ii 1)) ⟨hI786.1, hI786.2.1, hI786.2.2.1, hI786.2.2.2.1, hI786.2.2.2.2.1, hI786.2.2.2.2.2.1, hI786.2.2.2.2.2.2.1, hI786.2.2.2.2.2.2.2.1, hI786.2.2.2.2.2.2.2.2.1, rfl⟩ ?_
 intro ρ789 hI800
 refine UL.go ?_
 refine Wsr ?_
 refine W1 (OpT.lit (b := (decide ((1 : Int) < (1 : Int)))) (c := false) (by decide) (fun hk => OpT.ilt .i64 (1) (1) hI800.2.2.2.2.2.2.2.2.2 hI800.2.2.2.2.2.2.2.2.1 hk) ?_)
 refine Wnt ?_
 refine WC.seq ?_
 refine WC.condF rfl ?_
 refine WC.exit ?_
 refine thenQ_x ?_
 refine unrQ_x ?_
 refine blkQ_hit ?_
 refine thenQ_n ?_
 refine WC.region ?_
 refine W1 (OpT.move vn hI800.2.2.2.1 ?_)
 refine W1 (OpT.move (sl og15 3 oc16) hI800.1 ?_)
 refine W1 (OpT.move (ii 0) hI800.2.2.2.2.1 ?_)
 refine W1 (OpT.idx 1 ⟨og15, 0, none⟩ ⟨og15, 0, none⟩ 3 oc16 .i64 0 tu74 ts68 rfl rfl (by decide) (by decide) rfl ?_)
 refine W1 (OpT.loadS ⟨og15, 0, none⟩ (sl p118 1 c119) ta68 rfl (st788.cellB (i := 4) rfl rfl) ?_)
 refine W1 (OpT.buildSlice st788 [(0, (sl p118 1 c119))] [(sl p118 1 c119)] tu74 ts68 tz68 (mp1 rfl) (by kernel_rfl) (by decide) (fun b801 w802 st803 => ?_))
 have st804 := St.rowNil 68 1 (st803 : St Z w0 w802 (Blk b801 68 [(sl p118 1 c119)] :: Blk g382 3 (cx [(ii 2)] ex384) :: Blk g229 3 (cx [(ii 1)] ex231) :: Blk b33 106 [(sl g229 1 cap230), (sl g382 1 cap383), vn] :: Blk b30 3 [(ii (-1)), (ii 0), (ii 1)] :: Blk og15 68 (cx [(sl p118 1 c119), (sl p221 1 c222), (sl p324 1 c325)] ox17) :: Blk p118 9 (cx [(vs 120)] e120) :: Blk p221 9 (cx [(vs 121)] e223) :: Blk p324 9 (cx [(vs 122)] e326) :: L))
 have st805 : St Z w0 w802 (Blk b801 68 [(sl p118 1 c119)] :: Row 68 1 vn 0 [] :: Blk g382 3 (cx [(ii 2)] ex384) :: Blk g229 3 (cx [(ii 1)] ex231) :: Blk b33 106 [(sl g229 1 cap230), (sl g382 1 cap383), vn] :: Blk b30 3 [(ii (-1)), (ii 0), (ii 1)] :: Blk og15 68 (cx [(sl p118 1 c119), (sl p221 1 c222), (sl p324 1 c325)] ox17) :: Blk p118 9 (cx [(vs 120)] e120) :: Blk p221 9 (cx [(vs 121)] e223) :: Blk p324 9 (cx [(vs 122)] e326) :: L) := St.selT [Row 68 1 vn 0 [], Blk b801 68 [(sl p118 1 c119)], Blk g382 3 (cx [(ii 2)] ex384), Blk g229 3 (cx [(ii 1)] ex231), Blk b33 106 [(sl g229 1 cap230), (sl g382 1 cap383), vn], Blk b30 3 [(ii (-1)), (ii 0), (ii 1)], Blk og15 68 (cx [(sl p118 1 c119), (sl p221 1 c222), (sl p324 1 c325)] ox17), Blk p118 9 (cx [(vs 120)] e120), Blk p221 9 (cx [(vs 121)] e223), Blk p324 9 (cx [(vs 122)] e326)] [1, 0, 2, 3, 4, 5, 6, 7, 8, 9] rfl (by decide) st804
 refine W1 (OpT.append st805 1 tu74 ts68 tz68 rfl tb68 (by decide) rfl rfl rfl rfl (by decide) (by decide) (fun v806 w807 st808 hn809 => ?_))
 obtain ⟨g810, cap811, ex812, rfl, hE813, hc814, hm815, st816⟩ := St.openRow (n := 1) (cs := [(sl p118 1 c119)]) (by decide) st808
 replace st816 : St Z w0 w807 (Blk g810 68 (cx [(sl p118 1 c119)] ex812) :: Blk g382 3 (cx [(ii 2)] ex384) :: Blk g229 3 (cx [(ii 1)] ex231) :: Blk b33 106 [(sl g229 1 cap230), (sl g382 1 cap383), vn] :: Blk b30 3 [(ii (-1)), (ii 0), (ii 1)] :: Blk og15 68 (cx [(sl p118 1 c119), (sl p221 1 c222), (sl p324 1 c325)] ox17) :: Blk p118 9 (cx [(vs 120)] e120) :: Blk p221 9 (cx [(vs 121)] e223) :: Blk p324 9 (cx [(vs 122)] e326) :: L) := st816
 refine W1 (OpT.assign (sl g810 1 cap811) rfl ?_)
 refine WL.nil ?_
 refine blkQ_n ?_
 refine thenQ_n ?_
 refine WC.region ?_
 refine W1 (OpT.iadd .i64 (0) (1) (1) hI800.2.2.2.2.2.2.1 rfl (by decide) ?_)
 refine W1 (OpT.move (ii 1) rfl ?_)
 refine WL.nil ?_
 refine unrQ_n ?_
 refine UL.cut (fun r => r 5 = (sl og15 3 oc16) ∧ r 6 = (sl b30 3 3) ∧ r 7 = (sl b33 3 3) ∧ r 16 = (sl g810 1 cap811) ∧ r 92 = (ii 3) ∧ r 93 = (ii 1)) ⟨hI800.1, hI800.2.1, hI800.2.2.1, rfl, hI800.2.2.2.2.2.1, rfl⟩ ?_
 intro ρ817 hI824
 refine UL.go ?_
 refine Wsr ?_
 refine W1 (OpT.lit (b := (decide ((1 : Int) < (3 : Int)))) (c := true) (by decide) (fun hk => OpT.ilt .i64 (1) (3) hI824.2.2.2.2.2 hI824.2.2.2.2.1 hk) ?_)
 refine Wnt ?_
 refine WC.seq ?_
 refine WC.condT rfl ?_
 refine WC.skip ?_
 refine thenQ_n ?_
 refine WC.seq ?_
 refine WC.block ?_
 refine Wsr ?_
 refine W1 (OpT.assign (ii (-1)) rfl ?_)
 refine Wnt ?_
 refine WC.seq ?_
 refine Wsr ?_
 refine W1 (OpT.move (sl b30 3 3) hI824.2.1 ?_)
 refine W1 (OpT.litV (v := (ni 3)) (v' := (ii 3)) rfl (fun hk => OpT.lenS _ 3 3 rfl tu106 rfl hk) ?_)
 refine W1 (OpT.move (ii 0) rfl ?_)
 refine Wnt ?_
 refine WC.block ?_
 refine WC.unroll 12 ?_
 refine UL.cut (fun r => r 5 = (sl og15 3 oc16) ∧ r 6 = (sl b30 3 3) ∧ r 7 = (sl b33 3 3) ∧ r 16 = (sl g810 1 cap811) ∧ r 17 = (ii (-1)) ∧ r 92 = (ii 3) ∧ r 93 = (ii 1) ∧ r 95 = (sl b30 3 3) ∧ r 96 = (ii 3) ∧ r 97 = (ii 0)) ⟨hI824.1, hI824.2.1, hI824.2.2.1, hI824.2.2.2.1, rfl, hI824.2.2.2.2.1, hI824.2.2.2.2.2, rfl, rfl, rfl⟩ ?_
 intro ρ825 hI836
 refine UL.go ?_
 refine Wsr ?_
 refine W1 (OpT.lit (b := (decide ((0 : Int) < (3 : Int)))) (c := true) (by decide) (fun hk => OpT.ilt .i64 (0) (3) hI836.2.2.2.2.2.2.2.2.2 hI836.2.2.2.2.2.2.2.2.1 hk) ?_)
 refine Wnt ?_
 refine WC.seq ?_
 refine WC.condT rfl ?_
 refine WC.skip ?_
 refine thenQ_n ?_
 refine WC.seq ?_
 refine WC.block ?_
 refine Wsr ?_
 refine W1 (OpT.move (ii 0) hI836.2.2.2.2.2.2.2.2.2 ?_)
 refine W1 (OpT.idx 1 ⟨b30, 0, none⟩ ⟨b30, 0, none⟩ 3 3 .i64 0 tu106 ts3 hI836.2.2.2.2.2.2.2.1 hI836.2.2.2.2.2.2.2.2.2 (by decide) (by decide) rfl ?_)
 refine W1 (OpT.loadS ⟨b30, 0, none⟩ (ii (-1)) ta3 rfl (st816.cellB (i := 4) rfl rfl) ?_)
 refine W1 (OpT.assign (ii 0) rfl ?_)
 refine W1 (OpT.assign (ii (-1)) rfl ?_)
 refine Wnt ?_
 refine WC.seq ?_
 refine WC.draw 21 (fun jj vv => match jj with | 0 => vv = (ii (-1)) | 1 => vv = (.bool false) | 2 => vv = (.bool false) | 3 => vv = undef | 4 => vv = undef | 5 => vv = undef | 6 => vv = undef | 7 => vv = undef | 8 => vv = undef | 9 => vv = undef | 10 => vv = undef | 11 => vv = undef | 12 => vv = undef | 13 => vv = undef | 14 => vv = undef | 15 => vv = undef | 16 => vv = undef | 17 => vv = undef | 18 => vv = undef | 19 => vv = undef | 20 => vv = (.bool false) | _ => True) (fun _ _ => []) st816 fmix (by kernel_rfl) ((obS (obS (obS (obS (obS (obS (obS (obS (obS (obS (obS (obS (obS (obS (obS (obS (obS (obS (obS (obS (obS ob0 ?_) ?_) ?_) ?_) ?_) ?_) ?_) ?_) ?_) ?_) ?_) ?_) ?_) ?_) ?_) ?_) ?_) ?_) ?_) ?_) ?_)) ?_
 ·intro vals ρ w838 X hd h0 st837
  have e839 : ρ 19 = (ii (-1)) := (h0 19 rfl).trans rfl
  refine W1 (OpT.move (ii (-1)) e839 ?_)
  refine WL.nil ?_
  exact oneQ.mk ⟨rfl, st837⟩
 ·intro vals ρ w841 X hd h0 st840
  have e842 : ρ 102 = (ii (-1)) := ((hd 0 rfl).2 102 rfl).trans (hd 0 rfl).1
  refine W1 (OpT.lit (b := (decide ((-1 : Int) = (0 : Int)))) (c := false) (by decide) (fun hk => OpT.ieq .i64 (-1) (0) e842 rfl hk) ?_)
  refine WL.nil ?_
  exact oneQ.mk ⟨rfl, st840⟩
 ·intro vals ρ w844 X hd h0 st843
  have e845 : ρ 103 = (.bool false) := ((hd 1 rfl).2 103 rfl).trans (hd 1 rfl).1
  refine W1 (OpT.move (.bool false) e845 ?_)
  refine WL.nil ?_
  exact oneQ.mk ⟨rfl, st843⟩
 ·intro vals ρ w847 X hd h0 st846
  have e848 : ρ 17 = (ii (-1)) := (h0 17 rfl).trans hI836.2.2.2.2.1
  have e849 : ρ 104 = (.bool false) := ((hd 2 rfl).2 104 rfl).trans (hd 2 rfl).1
  refine WL.pass (dj := 104) (c := false) rfl rfl rfl e849 rfl ?_
  refine WL.nil ?_
  exact oneQ.mk ⟨rfl, st846⟩
 ·intro vals ρ w851 X hd h0 st850
  have e852 : ρ 104 = (.bool false) := ((hd 2 rfl).2 104 rfl).trans (hd 2 rfl).1
  have e853 : ρ 105 = undef := ((hd 3 rfl).2 105 rfl).trans (hd 3 rfl).1
  refine WL.pass (dj := 104) (c := false) rfl rfl rfl e852 rfl ?_
  refine WL.nil ?_
  exact oneQ.mk ⟨rfl, st850⟩
 ·intro vals ρ w855 X hd h0 st854
  have e856 : ρ 104 = (.bool false) := ((hd 2 rfl).2 104 rfl).trans (hd 2 rfl).1
  have e857 : ρ 106 = undef := ((hd 4 rfl).2 106 rfl).trans (hd 4 rfl).1
  refine WL.pass (dj := 104) (c := false) rfl rfl rfl e856 rfl ?_
  refine WL.nil ?_
  exact oneQ.mk ⟨rfl, st854⟩
 ·intro vals ρ w859 X hd h0 st858
  have e860 : ρ 5 = (sl og15 3 oc16) := (h0 5 rfl).trans hI836.1
  have e861 : ρ 107 = undef := ((hd 5 rfl).2 107 rfl).trans (hd 5 rfl).1
  refine WL.passU (dj := 107) rfl rfl e861 ?_
  refine WL.nil ?_
  exact oneQ.mk ⟨rfl, st858⟩
 ·intro vals ρ w863 X hd h0 st862
  have e864 : ρ 18 = (ii 0) := (h0 18 rfl).trans rfl
  have e865 : ρ 107 = undef := ((hd 5 rfl).2 107 rfl).trans (hd 5 rfl).1
  refine WL.passU (dj := 107) rfl rfl e865 ?_
  refine WL.nil ?_
  exact oneQ.mk ⟨rfl, st862⟩
 ·intro vals ρ w867 X hd h0 st866
  have e868 : ρ 107 = undef := ((hd 5 rfl).2 107 rfl).trans (hd 5 rfl).1
  have e869 : ρ 108 = undef := ((hd 6 rfl).2 108 rfl).trans (hd 6 rfl).1
  have e870 : ρ 109 = undef := ((hd 7 rfl).2 109 rfl).trans (hd 7 rfl).1
  refine WL.passU (dj := 107) rfl rfl e868 ?_
  refine WL.nil ?_
  exact oneQ.mk ⟨rfl, st866⟩
 ·intro vals ρ w872 X hd h0 st871
  have e873 : ρ 107 = undef := ((hd 5 rfl).2 107 rfl).trans (hd 5 rfl).1
  have e874 : ρ 110 = undef := ((hd 8 rfl).2 110 rfl).trans (hd 8 rfl).1
  refine WL.passU (dj := 107) rfl rfl e873 ?_
  refine WL.nil ?_
  exact oneQ.mk ⟨rfl, st871⟩
 ·intro vals ρ w876 X hd h0 st875
  have e877 : ρ 107 = undef := ((hd 5 rfl).2 107 rfl).trans (hd 5 rfl).1
  have e878 : ρ 111 = undef := ((hd 9 rfl).2 111 rfl).trans (hd 9 rfl).1
  refine WL.passU (dj := 107) rfl rfl e877 ?_
  refine WL.nil ?_
  exact oneQ.mk ⟨rfl, st875⟩
 ·intro vals ρ w880 X hd h0 st879
  have e881 : ρ 107 = undef := ((hd 5 rfl).2 107 rfl).trans (hd 5 rfl).1
  have e882 : ρ 112 = undef := ((hd 10 rfl).2 112 rfl).trans (hd 10 rfl).1
  refine WL.passU (dj := 107) rfl rfl e881 ?_
  refine WL.nil ?_
  exact oneQ.mk ⟨rfl, st879⟩
 ·intro vals ρ w884 X hd h0 st883
  have e885 : ρ 5 = (sl og15 3 oc16) := (h0 5 rfl).trans hI836.1
  have e886 : ρ 107 = undef := ((hd 5 rfl).2 107 rfl).trans (hd 5 rfl).1
  refine WL.passU (dj := 107) rfl rfl e886 ?_
  refine WL.nil ?_
  exact oneQ.mk ⟨rfl, st883⟩
 ·intro vals ρ w888 X hd h0 st887
  have e889 : ρ 17 = (ii (-1)) := (h0 17 rfl).trans hI836.2.2.2.2.1
  have e890 : ρ 107 = undef := ((hd 5 rfl).2 107 rfl).trans (hd 5 rfl).1
  refine WL.passU (dj := 107) rfl rfl e890 ?_
  refine WL.nil ?_
  exact oneQ.mk ⟨rfl, st887⟩
 ·intro vals ρ w892 X hd h0 st891
  have e893 : ρ 107 = undef := ((hd 5 rfl).2 107 rfl).trans (hd 5 rfl).1
  have e894 : ρ 114 = undef := ((hd 12 rfl).2 114 rfl).trans (hd 12 rfl).1
  have e895 : ρ 115 = undef := ((hd 13 rfl).2 115 rfl).trans (hd 13 rfl).1
  refine WL.passU (dj := 107) rfl rfl e893 ?_
  refine WL.nil ?_
  exact oneQ.mk ⟨rfl, st891⟩
 ·intro vals ρ w897 X hd h0 st896
  have e898 : ρ 107 = undef := ((hd 5 rfl).2 107 rfl).trans (hd 5 rfl).1
  have e899 : ρ 116 = undef := ((hd 14 rfl).2 116 rfl).trans (hd 14 rfl).1
  refine WL.passU (dj := 107) rfl rfl e898 ?_
  refine WL.nil ?_
  exact oneQ.mk ⟨rfl, st896⟩
 ·intro vals ρ w901 X hd h0 st900
  have e902 : ρ 107 = undef := ((hd 5 rfl).2 107 rfl).trans (hd 5 rfl).1
  have e903 : ρ 117 = undef := ((hd 15 rfl).2 117 rfl).trans (hd 15 rfl).1
  refine WL.passU (dj := 107) rfl rfl e902 ?_
  refine WL.nil ?_
  exact oneQ.mk ⟨rfl, st900⟩
 ·intro vals ρ w905 X hd h0 st904
  have e906 : ρ 107 = undef := ((hd 5 rfl).2 107 rfl).trans (hd 5 rfl).1
  have e907 : ρ 118 = undef := ((hd 16 rfl).2 118 rfl).trans (hd 16 rfl).1
  refine WL.passU (dj := 107) rfl rfl e906 ?_
  refine WL.nil ?_
  exact oneQ.mk ⟨rfl, st904⟩
 ·intro vals ρ w909 X hd h0 st908
  have e910 : ρ 107 = undef := ((hd 5 rfl).2 107 rfl).trans (hd 5 rfl).1
  have e911 : ρ 113 = undef := ((hd 11 rfl).2 113 rfl).trans (hd 11 rfl).1
  have e912 : ρ 119 = undef := ((hd 17 rfl).2 119 rfl).trans (hd 17 rfl).1
  refine WL.passU (dj := 107) rfl rfl e910 ?_
  refine WL.nil ?_
  exact oneQ.mk ⟨rfl, st908⟩
 ·intro vals ρ w914 X hd h0 st913
  have e915 : ρ 104 = (.bool false) := ((hd 2 rfl).2 104 rfl).trans (hd 2 rfl).1
  have e916 : ρ 107 = undef := ((hd 5 rfl).2 107 rfl).trans (hd 5 rfl).1
  have e917 : ρ 120 = undef := ((hd 18 rfl).2 120 rfl).trans (hd 18 rfl).1
  refine WL.pass (dj := 104) (c := false) rfl rfl rfl e915 rfl ?_
  refine WL.nil ?_
  exact oneQ.mk ⟨rfl, st913⟩
 ·intro vals ρ w919 X hd h0 st918
  have e920 : ρ 104 = (.bool false) := ((hd 2 rfl).2 104 rfl).trans (hd 2 rfl).1
  have e921 : ρ 121 = undef := ((hd 19 rfl).2 121 rfl).trans (hd 19 rfl).1
  refine W1 (OpT.pickF (.bool false) e920 rfl ?_)
  refine WL.nil ?_
  exact oneQ.mk ⟨rfl, st918⟩
 intro vals ρ924 w923 hv h0 st922
 replace st922 : St Z w0 w923 (Blk g810 68 (cx [(sl p118 1 c119)] ex812) :: Blk g382 3 (cx [(ii 2)] ex384) :: Blk g229 3 (cx [(ii 1)] ex231) :: Blk b33 106 [(sl g229 1 cap230), (sl g382 1 cap383), vn] :: Blk b30 3 [(ii (-1)), (ii 0), (ii 1)] :: Blk og15 68 (cx [(sl p118 1 c119), (sl p221 1 c222), (sl p324 1 c325)] ox17) :: Blk p118 9 (cx [(vs 120)] e120) :: Blk p221 9 (cx [(vs 121)] e223) :: Blk p324 9 (cx [(vs 122)] e326) :: L) := st922
 have e925 : ρ924 5 = (sl og15 3 oc16) := (h0 5 rfl).trans hI836.1
 have e926 : ρ924 6 = (sl b30 3 3) := (h0 6 rfl).trans hI836.2.1
 have e927 : ρ924 7 = (sl b33 3 3) := (h0 7 rfl).trans hI836.2.2.1
 have e928 : ρ924 16 = (sl g810 1 cap811) := (h0 16 rfl).trans hI836.2.2.2.1
 have e929 : ρ924 17 = (ii (-1)) := (h0 17 rfl).trans hI836.2.2.2.2.1
 have e930 : ρ924 18 = (ii 0) := (h0 18 rfl).trans rfl
 have e931 : ρ924 92 = (ii 3) := (h0 92 rfl).trans hI836.2.2.2.2.2.1
 have e932 : ρ924 93 = (ii 1) := (h0 93 rfl).trans hI836.2.2.2.2.2.2.1
 have e933 : ρ924 95 = (sl b30 3 3) := (h0 95 rfl).trans hI836.2.2.2.2.2.2.2.1
 have e934 : ρ924 96 = (ii 3) := (h0 96 rfl).trans hI836.2.2.2.2.2.2.2.2.1
 have e935 : ρ924 97 = (ii 0) := (h0 97 rfl).trans hI836.2.2.2.2.2.2.2.2.2
 have e936 : ρ924 122 = (.bool false) := ((hv 20 rfl).2 122 rfl).trans (hv 20 rfl).1
 clear hv h0
 refine Wnt ?_
 refine WC.condF e936 ?_
 refine WC.skip ?_
 refine blkQ_n ?_
 refine thenQ_n ?_
 refine WC.region ?_
 refine W1 (OpT.iadd .i64 (0) (1) (1) e935 rfl (by decide) ?_)
 refine W1 (OpT.move (ii 1) rfl ?_)
 refine WL.nil ?_
 refine unrQ_n ?_
 refine UL.cut (fun r => r 5 = (sl og15 3 oc16) ∧ r 6 = (sl b30 3 3) ∧ r 7 = (sl b33 3 3) ∧ r 16 = (sl g810 1 cap811) ∧ r 17 = (ii (-1)) ∧ r 92 = (ii 3) ∧ r 93 = (ii 1) ∧ r 95 = (sl b30 3 3) ∧ r 96 = (ii 3) ∧ r 97 = (ii 1)) ⟨e925, e926, e927, e928, e929, e931, e932, e933, e934, rfl⟩ ?_
 intro ρ937 hI948
 refine UL.go ?_
 refine Wsr ?_
 refine W1 (OpT.lit (b := (decide ((1 : Int) < (3 : Int)))) (c := true) (by decide) (fun hk => OpT.ilt .i64 (1) (3) hI948.2.2.2.2.2.2.2.2.2 hI948.2.2.2.2.2.2.2.2.1 hk) ?_)
 refine Wnt ?_
 refine WC.seq ?_
 refine WC.condT rfl ?_
 refine WC.skip ?_
 refine thenQ_n ?_
 refine WC.seq ?_
 refine WC.block ?_
 refine Wsr ?_
 refine W1 (OpT.move (ii 1) hI948.2.2.2.2.2.2.2.2.2 ?_)
 refine W1 (OpT.idx 1 ⟨b30, 0, none⟩ ⟨b30, 1, none⟩ 3 3 .i64 1 tu106 ts3 hI948.2.2.2.2.2.2.2.1 hI948.2.2.2.2.2.2.2.2.2 (by decide) (by decide) rfl ?_)
 refine W1 (OpT.loadS ⟨b30, 1, none⟩ (ii 0) ta3 rfl (st922.cellB (i := 4) rfl rfl) ?_)
 refine W1 (OpT.assign (ii 1) rfl ?_)
 refine W1 (OpT.assign (ii 0) rfl ?_)
 refine Wnt ?_
 refine WC.seq ?_
 refine WC.draw 21 (fun jj vv => match jj with | 0 => vv = (ii 0) | 1 => vv = (.bool true) | 2 => vv = (.bool true) | 3 => vv = (ii (-1)) | 4 => vv = (.bool true) | 5 => vv = (.bool true) | 6 => vv = undef | 7 => vv = undef | 8 => vv = undef | 9 => vv = undef | 10 => vv = undef | 11 => vv = undef | 12 => vv = undef | 13 => vv = undef | 14 => vv = undef | 15 => vv = undef | 16 => vv = undef | 17 => vv = undef | 18 => vv = undef | 19 => vv = (.bool true) | 20 => vv = (.bool true) | _ => True) (fun _ _ => []) st922 fmix (by kernel_rfl) ((obS (obS (obS (obS (obS (obS (obS (obS (obS (obS (obS (obS (obS (obS (obS (obS (obS (obS (obS (obS (obS ob0 ?_) ?_) ?_) ?_) ?_) ?_) ?_) ?_) ?_) ?_) ?_) ?_) ?_) ?_) ?_) ?_) ?_) ?_) ?_) ?_) ?_)) ?_
 ·intro vals ρ w950 X hd h0 st949
  have e951 : ρ 19 = (ii 0) := (h0 19 rfl).trans rfl
  refine W1 (OpT.move (ii 0) e951 ?_)
  refine WL.nil ?_
  exact oneQ.mk ⟨rfl, st949⟩
 ·intro vals ρ w953 X hd h0 st952
  have e954 : ρ 102 = (ii 0) := ((hd 0 rfl).2 102 rfl).trans (hd 0 rfl).1
  refine W1 (OpT.lit (b := (decide ((0 : Int) = (0 : Int)))) (c := true) (by decide) (fun hk => OpT.ieq .i64 (0) (0) e954 rfl hk) ?_)
  refine WL.nil ?_
  exact oneQ.mk ⟨rfl, st952⟩
 ·intro vals ρ w956 X hd h0 st955
  have e957 : ρ 103 = (.bool true) := ((hd 1 rfl).2 103 rfl).trans (hd 1 rfl).1
  refine W1 (OpT.move (.bool true) e957 ?_)
  refine WL.nil ?_
  exact oneQ.mk ⟨rfl, st955⟩
 ·intro vals ρ w959 X hd h0 st958
  have e960 : ρ 17 = (ii (-1)) := (h0 17 rfl).trans hI948.2.2.2.2.1
  have e961 : ρ 104 = (.bool true) := ((hd 2 rfl).2 104 rfl).trans (hd 2 rfl).1
  refine W2 (dj := 104) e961 (OpT.move (ii (-1)) e960 ?_)
  refine WL.nil ?_
  exact oneQ.mk ⟨rfl, st958⟩
 ·intro vals ρ w963 X hd h0 st962
  have e964 : ρ 104 = (.bool true) := ((hd 2 rfl).2 104 rfl).trans (hd 2 rfl).1
  have e965 : ρ 105 = (ii (-1)) := ((hd 3 rfl).2 105 rfl).trans (hd 3 rfl).1
  refine W2 (dj := 104) e964 (OpT.lit (b := (decide ((-1 : Int) < (0 : Int)))) (c := true) (by decide) (fun hk => OpT.ilt .i64 (-1) (0) e965 rfl hk) ?_)
  refine WL.nil ?_
  exact oneQ.mk ⟨rfl, st962⟩
 ·intro vals ρ w967 X hd h0 st966
  have e968 : ρ 104 = (.bool true) := ((hd 2 rfl).2 104 rfl).trans (hd 2 rfl).1
  have e969 : ρ 106 = (.bool true) := ((hd 4 rfl).2 106 rfl).trans (hd 4 rfl).1
  refine W2 (dj := 104) e968 (OpT.move (.bool true) e969 ?_)
  refine WL.nil ?_
  exact oneQ.mk ⟨rfl, st966⟩
 ·intro vals ρ w971 X hd h0 st970
  have e972 : ρ 5 = (sl og15 3 oc16) := (h0 5 rfl).trans hI948.1
  have e973 : ρ 107 = (.bool true) := ((hd 5 rfl).2 107 rfl).trans (hd 5 rfl).1
  refine WL.pass (dj := 107) (c := true) rfl rfl rfl e973 rfl ?_
  refine WL.nil ?_
  exact oneQ.mk ⟨rfl, st970⟩
 ·intro vals ρ w975 X hd h0 st974
  have e976 : ρ 18 = (ii 1) := (h0 18 rfl).trans rfl
  have e977 : ρ 107 = (.bool true) := ((hd 5 rfl).2 107 rfl).trans (hd 5 rfl).1
  refine WL.pass (dj := 107) (c := true) rfl rfl rfl e977 rfl ?_
  refine WL.nil ?_
  exact oneQ.mk ⟨rfl, st974⟩
 ·intro vals ρ w979 X hd h0 st978
  have e980 : ρ 107 = (.bool true) := ((hd 5 rfl).2 107 rfl).trans (hd 5 rfl).1
  have e981 : ρ 108 = undef := ((hd 6 rfl).2 108 rfl).trans (hd 6 rfl).1
  have e982 : ρ 109 = undef := ((hd 7 rfl).2 109 rfl).trans (hd 7 rfl).1
  refine WL.pass (dj := 107) (c := true) rfl rfl rfl e980 rfl ?_
  refine WL.nil ?_
  exact oneQ.mk ⟨rfl, st978⟩
 ·intro vals ρ w984 X hd h0 st983
  have e985 : ρ 107 = (.bool true) := ((hd 5 rfl).2 107 rfl).trans (hd 5 rfl).1
  have e986 : ρ 110 = undef := ((hd 8 rfl).2 110 rfl).trans (hd 8 rfl).1
  refine WL.pass (dj := 107) (c := true) rfl rfl rfl e985 rfl ?_
  refine WL.nil ?_
  exact oneQ.mk ⟨rfl, st983⟩
 ·intro vals ρ w988 X hd h0 st987
  have e989 : ρ 107 = (.bool true) := ((hd 5 rfl).2 107 rfl).trans (hd 5 rfl).1
  have e990 : ρ 111 = undef := ((hd 9 rfl).2 111 rfl).trans (hd 9 rfl).1
  refine WL.pass (dj := 107) (c := true) rfl rfl rfl e989 rfl ?_
  refine WL.nil ?_
  exact oneQ.mk ⟨rfl, st987⟩
 ·intro vals ρ w992 X hd h0 st991
  have e993 : ρ 107 = (.bool true) := ((hd 5 rfl).2 107 rfl).trans (hd 5 rfl).1
  have e994 : ρ 112 = undef := ((hd 10 rfl).2 112 rfl).trans (hd 10 rfl).1
  refine WL.pass (dj := 107) (c := true) rfl rfl rfl e993 rfl ?_
  refine WL.nil ?_
  exact oneQ.mk ⟨rfl, st991⟩
 ·intro vals ρ w996 X hd h0 st995
  have e997 : ρ 5 = (sl og15 3 oc16) := (h0 5 rfl).trans hI948.1
  have e998 : ρ 107 = (.bool true) := ((hd 5 rfl).2 107 rfl).trans (hd 5 rfl).1
  refine WL.pass (dj := 107) (c := true) rfl rfl rfl e998 rfl ?_
  refine WL.nil ?_
  exact oneQ.mk ⟨rfl, st995⟩
 ·intro vals ρ w1000 X hd h0 st999
  have e1001 : ρ 17 = (ii (-1)) := (h0 17 rfl).trans hI948.2.2.2.2.1
  have e1002 : ρ 107 = (.bool true) := ((hd 5 rfl).2 107 rfl).trans (hd 5 rfl).1
  refine WL.pass (dj := 107) (c := true) rfl rfl rfl e1002 rfl ?_
  refine WL.nil ?_
  exact oneQ.mk ⟨rfl, st999⟩
 ·intro vals ρ w1004 X hd h0 st1003
  have e1005 : ρ 107 = (.bool true) := ((hd 5 rfl).2 107 rfl).trans (hd 5 rfl).1
  have e1006 : ρ 114 = undef := ((hd 12 rfl).2 114 rfl).trans (hd 12 rfl).1
  have e1007 : ρ 115 = undef := ((hd 13 rfl).2 115 rfl).trans (hd 13 rfl).1
  refine WL.pass (dj := 107) (c := true) rfl rfl rfl e1005 rfl ?_
  refine WL.nil ?_
  exact oneQ.mk ⟨rfl, st1003⟩
 ·intro vals ρ w1009 X hd h0 st1008
  have e1010 : ρ 107 = (.bool true) := ((hd 5 rfl).2 107 rfl).trans (hd 5 rfl).1
  have e1011 : ρ 116 = undef := ((hd 14 rfl).2 116 rfl).trans (hd 14 rfl).1
  refine WL.pass (dj := 107) (c := true) rfl rfl rfl e1010 rfl ?_
  refine WL.nil ?_
  exact oneQ.mk ⟨rfl, st1008⟩
 ·intro vals ρ w1013 X hd h0 st1012
  have e1014 : ρ 107 = (.bool true) := ((hd 5 rfl).2 107 rfl).trans (hd 5 rfl).1
  have e1015 : ρ 117 = undef := ((hd 15 rfl).2 117 rfl).trans (hd 15 rfl).1
  refine WL.pass (dj := 107) (c := true) rfl rfl rfl e1014 rfl ?_
  refine WL.nil ?_
  exact oneQ.mk ⟨rfl, st1012⟩
 ·intro vals ρ w1017 X hd h0 st1016
  have e1018 : ρ 107 = (.bool true) := ((hd 5 rfl).2 107 rfl).trans (hd 5 rfl).1
  have e1019 : ρ 118 = undef := ((hd 16 rfl).2 118 rfl).trans (hd 16 rfl).1
  refine WL.pass (dj := 107) (c := true) rfl rfl rfl e1018 rfl ?_
  refine WL.nil ?_
  exact oneQ.mk ⟨rfl, st1016⟩
 ·intro vals ρ w1021 X hd h0 st1020
  have e1022 : ρ 107 = (.bool true) := ((hd 5 rfl).2 107 rfl).trans (hd 5 rfl).1
  have e1023 : ρ 113 = undef := ((hd 11 rfl).2 113 rfl).trans (hd 11 rfl).1
  have e1024 : ρ 119 = undef := ((hd 17 rfl).2 119 rfl).trans (hd 17 rfl).1
  refine WL.pass (dj := 107) (c := true) rfl rfl rfl e1022 rfl ?_
  refine WL.nil ?_
  exact oneQ.mk ⟨rfl, st1020⟩
 ·intro vals ρ w1026 X hd h0 st1025
  have e1027 : ρ 104 = (.bool true) := ((hd 2 rfl).2 104 rfl).trans (hd 2 rfl).1
  have e1028 : ρ 107 = (.bool true) := ((hd 5 rfl).2 107 rfl).trans (hd 5 rfl).1
  have e1029 : ρ 120 = undef := ((hd 18 rfl).2 120 rfl).trans (hd 18 rfl).1
  refine W2 (dj := 104) e1027 (OpT.pickT (.bool true) e1028 rfl ?_)
  refine WL.nil ?_
  exact oneQ.mk ⟨rfl, st1025⟩
 ·intro vals ρ w1031 X hd h0 st1030
  have e1032 : ρ 104 = (.bool true) := ((hd 2 rfl).2 104 rfl).trans (hd 2 rfl).1
  have e1033 : ρ 121 = (.bool true) := ((hd 19 rfl).2 121 rfl).trans (hd 19 rfl).1
  refine W1 (OpT.pickT (.bool true) e1032 e1033 ?_)
  refine WL.nil ?_
  exact oneQ.mk ⟨rfl, st1030⟩
 intro vals ρ1036 w1035 hv h0 st1034
 replace st1034 : St Z w0 w1035 (Blk g810 68 (cx [(sl p118 1 c119)] ex812) :: Blk g382 3 (cx [(ii 2)] ex384) :: Blk g229 3 (cx [(ii 1)] ex231) :: Blk b33 106 [(sl g229 1 cap230), (sl g382 1 cap383), vn] :: Blk b30 3 [(ii (-1)), (ii 0), (ii 1)] :: Blk og15 68 (cx [(sl p118 1 c119), (sl p221 1 c222), (sl p324 1 c325)] ox17) :: Blk p118 9 (cx [(vs 120)] e120) :: Blk p221 9 (cx [(vs 121)] e223) :: Blk p324 9 (cx [(vs 122)] e326) :: L) := st1034
 have e1037 : ρ1036 5 = (sl og15 3 oc16) := (h0 5 rfl).trans hI948.1
 have e1038 : ρ1036 6 = (sl b30 3 3) := (h0 6 rfl).trans hI948.2.1
 have e1039 : ρ1036 7 = (sl b33 3 3) := (h0 7 rfl).trans hI948.2.2.1
 have e1040 : ρ1036 16 = (sl g810 1 cap811) := (h0 16 rfl).trans hI948.2.2.2.1
 have e1041 : ρ1036 17 = (ii (-1)) := (h0 17 rfl).trans hI948.2.2.2.2.1
 have e1042 : ρ1036 18 = (ii 1) := (h0 18 rfl).trans rfl
 have e1043 : ρ1036 92 = (ii 3) := (h0 92 rfl).trans hI948.2.2.2.2.2.1
 have e1044 : ρ1036 93 = (ii 1) := (h0 93 rfl).trans hI948.2.2.2.2.2.2.1
 have e1045 : ρ1036 95 = (sl b30 3 3) := (h0 95 rfl).trans hI948.2.2.2.2.2.2.2.1
 have e1046 : ρ1036 96 = (ii 3) := (h0 96 rfl).trans hI948.2.2.2.2.2.2.2.2.1
 have e1047 : ρ1036 97 = (ii 1) := (h0 97 rfl).trans hI948.2.2.2.2.2.2.2.2.2
 have e1048 : ρ1036 122 = (.bool true) := ((hv 20 rfl).2 122 rfl).trans (hv 20 rfl).1
 clear hv h0
 refine Wnt ?_
 refine WC.condT e1048 ?_
 refine WC.region ?_
 refine W1 (OpT.move (ii 1) e1042 ?_)
 refine W1 (OpT.assign (ii 1) rfl ?_)
 refine WL.nil ?_
 refine blkQ_n ?_
 refine thenQ_n ?_
 refine WC.region ?_
 refine W1 (OpT.iadd .i64 (1) (1) (2) e1047 rfl (by decide) ?_)
 refine W1 (OpT.move (ii 2) rfl ?_)
 refine WL.nil ?_
 refine unrQ_n ?_
 refine UL.cut (fun r => r 5 = (sl og15 3 oc16) ∧ r 6 = (sl b30 3 3) ∧ r 7 = (sl b33 3 3) ∧ r 16 = (sl g810 1 cap811) ∧ r 17 = (ii 1) ∧ r 92 = (ii 3) ∧ r 93 = (ii 1) ∧ r 95 = (sl b30 3 3) ∧ r 96 = (ii 3) ∧ r 97 = (ii 2)) ⟨e1037, e1038, e1039, e1040, rfl, e1043, e1044, e1045, e1046, rfl⟩ ?_
 intro ρ1049 hI1060
 refine UL.go ?_
 refine Wsr ?_
 refine W1 (OpT.lit (b := (decide ((2 : Int) < (3 : Int)))) (c := true) (by decide) (fun hk => OpT.ilt .i64 (2) (3) hI1060.2.2.2.2.2.2.2.2.2 hI1060.2.2.2.2.2.2.2.2.1 hk) ?_)
 refine Wnt ?_
 refine WC.seq ?_
 refine WC.condT rfl ?_
 refine WC.skip ?_
 refine thenQ_n ?_
 refine WC.seq ?_
 refine WC.block ?_
 refine Wsr ?_
 refine W1 (OpT.move (ii 2) hI1060.2.2.2.2.2.2.2.2.2 ?_)
 refine W1 (OpT.idx 1 ⟨b30, 0, none⟩ ⟨b30, 2, none⟩ 3 3 .i64 2 tu106 ts3 hI1060.2.2.2.2.2.2.2.1 hI1060.2.2.2.2.2.2.2.2.2 (by decide) (by decide) rfl ?_)
 refine W1 (OpT.loadS ⟨b30, 2, none⟩ (ii 1) ta3 rfl (st1034.cellB (i := 4) rfl rfl) ?_)
 refine W1 (OpT.assign (ii 2) rfl ?_)
 refine W1 (OpT.assign (ii 1) rfl ?_)
 refine Wnt ?_
 refine WC.seq ?_
 refine WC.draw 21 (fun jj vv => match jj with | 0 => vv = (ii 1) | 1 => vv = (.bool false) | 2 => vv = (.bool false) | 3 => vv = undef | 4 => vv = undef | 5 => vv = undef | 6 => vv = undef | 7 => vv = undef | 8 => vv = undef | 9 => vv = undef | 10 => vv = undef | 11 => vv = undef | 12 => vv = undef | 13 => vv = undef | 14 => vv = undef | 15 => vv = undef | 16 => vv = undef | 17 => vv = undef | 18 => vv = undef | 19 => vv = undef | 20 => vv = (.bool false) | _ => True) (fun _ _ => []) st1034 fmix (by kernel_rfl) ((obS (obS (obS (obS (obS (obS (obS (obS (obS (obS (obS (obS (obS (obS (obS (obS (obS (obS (obS (obS (obS ob0 ?_) ?_) ?_) ?_) ?_) ?_) ?_) ?_) ?_) ?_) ?_) ?_) ?_) ?_) ?_) ?_) ?_) ?_) ?_) ?_) ?_)) ?_
 ·intro vals ρ w1062 X hd h0 st1061
  have e1063 : ρ 19 = (ii 1) := (h0 19 rfl).trans rfl
  refine W1 (OpT.move (ii 1) e1063 ?_)
  refine WL.nil ?_
  exact oneQ.mk ⟨rfl, st1061⟩
 ·intro vals ρ w1065 X hd h0 st1064
  have e1066 : ρ 102 = (ii 1) := ((hd 0 rfl).2 102 rfl).trans (hd 0 rfl).1
  refine W1 (OpT.lit (b := (decide ((1 : Int) = (0 : Int)))) (c := false) (by decide) (fun hk => OpT.ieq .i64 (1) (0) e1066 rfl hk) ?_)
  refine WL.nil ?_
  exact oneQ.mk ⟨rfl, st1064⟩
 ·intro vals ρ w1068 X hd h0 st1067
  have e1069 : ρ 103 = (.bool false) := ((hd 1 rfl).2 103 rfl).trans (hd 1 rfl).1
  refine W1 (OpT.move (.bool false) e1069 ?_)
  refine WL.nil ?_
  exact oneQ.mk ⟨rfl, st1067⟩
 ·intro vals ρ w1071 X hd h0 st1070
  have e1072 : ρ 17 = (ii 1) := (h0 17 rfl).trans hI1060.2.2.2.2.1
  have e1073 : ρ 104 = (.bool false) := ((hd 2 rfl).2 104 rfl).trans (hd 2 rfl).1
  refine WL.pass (dj := 104) (c := false) rfl rfl rfl e1073 rfl ?_
  refine WL.nil ?_
  exact oneQ.mk ⟨rfl, st1070⟩
 ·intro vals ρ w1075 X hd h0 st1074
  have e1076 : ρ 104 = (.bool false) := ((hd 2 rfl).2 104 rfl).trans (hd 2 rfl).1
  have e1077 : ρ 105 = undef := ((hd 3 rfl).2 105 rfl).trans (hd 3 rfl).1
  refine WL.pass (dj := 104) (c := false) rfl rfl rfl e1076 rfl ?_
  refine WL.nil ?_
  exact oneQ.mk ⟨rfl, st1074⟩
 ·intro vals ρ w1079 X hd h0 st1078
  have e1080 : ρ 104 = (.bool false) := ((hd 2 rfl).2 104 rfl).trans (hd 2 rfl).1
  have e1081 : ρ 106 = undef := ((hd 4 rfl).2 106 rfl).trans (hd 4 rfl).1
  refine WL.pass (dj := 104) (c := false) rfl rfl rfl e1080 rfl ?_
  refine WL.nil ?_
  exact oneQ.mk ⟨rfl, st1078⟩
 ·intro vals ρ w1083 X hd h0 st1082
  have e1084 : ρ 5 = (sl og15 3 oc16) := (h0 5 rfl).trans hI1060.1
  have e1085 : ρ 107 = undef := ((hd 5 rfl).2 107 rfl).trans (hd 5 rfl).1
  refine WL.passU (dj := 107) rfl rfl e1085 ?_
  refine WL.nil ?_
  exact oneQ.mk ⟨rfl, st1082⟩
 ·intro vals ρ w1087 X hd h0 st1086
  have e1088 : ρ 18 = (ii 2) := (h0 18 rfl).trans rfl
  have e1089 : ρ 107 = undef := ((hd 5 rfl).2 107 rfl).trans (hd 5 rfl).1
  refine WL.passU (dj := 107) rfl rfl e1089 ?_
  refine WL.nil ?_
  exact oneQ.mk ⟨rfl, st1086⟩
 ·intro vals ρ w1091 X hd h0 st1090
  have e1092 : ρ 107 = undef := ((hd 5 rfl).2 107 rfl).trans (hd 5 rfl).1
  have e1093 : ρ 108 = undef := ((hd 6 rfl).2 108 rfl).trans (hd 6 rfl).1
  have e1094 : ρ 109 = undef := ((hd 7 rfl).2 109 rfl).trans (hd 7 rfl).1
  refine WL.passU (dj := 107) rfl rfl e1092 ?_
  refine WL.nil ?_
  exact oneQ.mk ⟨rfl, st1090⟩
 ·intro vals ρ w1096 X hd h0 st1095
  have e1097 : ρ 107 = undef := ((hd 5 rfl).2 107 rfl).trans (hd 5 rfl).1
  have e1098 : ρ 110 = undef := ((hd 8 rfl).2 110 rfl).trans (hd 8 rfl).1
  refine WL.passU (dj := 107) rfl rfl e1097 ?_
  refine WL.nil ?_
  exact oneQ.mk ⟨rfl, st1095⟩
 ·intro vals ρ w1100 X hd h0 st1099
  have e1101 : ρ 107 = undef := ((hd 5 rfl).2 107 rfl).trans (hd 5 rfl).1
  have e1102 : ρ 111 = undef := ((hd 9 rfl).2 111 rfl).trans (hd 9 rfl).1
  refine WL.passU (dj := 107) rfl rfl e1101 ?_
  refine WL.nil ?_
  exact oneQ.mk ⟨rfl, st1099⟩
 ·intro vals ρ w1104 X hd h0 st1103
  have e1105 : ρ 107 = undef := ((hd 5 rfl).2 107 rfl).trans (hd 5 rfl).1
  have e1106 : ρ 112 = undef := ((hd 10 rfl).2 112 rfl).trans (hd 10 rfl).1
  refine WL.passU (dj := 107) rfl rfl e1105 ?_
  refine WL.nil ?_
  exact oneQ.mk ⟨rfl, st1103⟩
 ·intro vals ρ w1108 X hd h0 st1107
  have e1109 : ρ 5 = (sl og15 3 oc16) := (h0 5 rfl).trans hI1060.1
  have e1110 : ρ 107 = undef := ((hd 5 rfl).2 107 rfl).trans (hd 5 rfl).1
  refine WL.passU (dj := 107) rfl rfl e1110 ?_
  refine WL.nil ?_
  exact oneQ.mk ⟨rfl, st1107⟩
 ·intro vals ρ w1112 X hd h0 st1111
  have e1113 : ρ 17 = (ii 1) := (h0 17 rfl).trans hI1060.2.2.2.2.1
  have e1114 : ρ 107 = undef := ((hd 5 rfl).2 107 rfl).trans (hd 5 rfl).1
  refine WL.passU (dj := 107) rfl rfl e1114 ?_
  refine WL.nil ?_
  exact oneQ.mk ⟨rfl, st1111⟩
 ·intro vals ρ w1116 X hd h0 st1115
  have e1117 : ρ 107 = undef := ((hd 5 rfl).2 107 rfl).trans (hd 5 rfl).1
  have e1118 : ρ 114 = undef := ((hd 12 rfl).2 114 rfl).trans (hd 12 rfl).1
  have e1119 : ρ 115 = undef := ((hd 13 rfl).2 115 rfl).trans (hd 13 rfl).1
  refine WL.passU (dj := 107) rfl rfl e1117 ?_
  refine WL.nil ?_
  exact oneQ.mk ⟨rfl, st1115⟩
 ·intro vals ρ w1121 X hd h0 st1120
  have e1122 : ρ 107 = undef := ((hd 5 rfl).2 107 rfl).trans (hd 5 rfl).1
  have e1123 : ρ 116 = undef := ((hd 14 rfl).2 116 rfl).trans (hd 14 rfl).1
  refine WL.passU (dj := 107) rfl rfl e1122 ?_
  refine WL.nil ?_
  exact oneQ.mk ⟨rfl, st1120⟩
 ·intro vals ρ w1125 X hd h0 st1124
  have e1126 : ρ 107 = undef := ((hd 5 rfl).2 107 rfl).trans (hd 5 rfl).1
  have e1127 : ρ 117 = undef := ((hd 15 rfl).2 117 rfl).trans (hd 15 rfl).1
  refine WL.passU (dj := 107) rfl rfl e1126 ?_
  refine WL.nil ?_
  exact oneQ.mk ⟨rfl, st1124⟩
 ·intro vals ρ w1129 X hd h0 st1128
  have e1130 : ρ 107 = undef := ((hd 5 rfl).2 107 rfl).trans (hd 5 rfl).1
  have e1131 : ρ 118 = undef := ((hd 16 rfl).2 118 rfl).trans (hd 16 rfl).1
  refine WL.passU (dj := 107) rfl rfl e1130 ?_
  refine WL.nil ?_
  exact oneQ.mk ⟨rfl, st1128⟩
 ·intro vals ρ w1133 X hd h0 st1132
  have e1134 : ρ 107 = undef := ((hd 5 rfl).2 107 rfl).trans (hd 5 rfl).1
  have e1135 : ρ 113 = undef := ((hd 11 rfl).2 113 rfl).trans (hd 11 rfl).1
  have e1136 : ρ 119 = undef := ((hd 17 rfl).2 119 rfl).trans (hd 17 rfl).1
  refine WL.passU (dj := 107) rfl rfl e1134 ?_
  refine WL.nil ?_
  exact oneQ.mk ⟨rfl, st1132⟩
 ·intro vals ρ w1138 X hd h0 st1137
  have e1139 : ρ 104 = (.bool false) := ((hd 2 rfl).2 104 rfl).trans (hd 2 rfl).1
  have e1140 : ρ 107 = undef := ((hd 5 rfl).2 107 rfl).trans (hd 5 rfl).1
  have e1141 : ρ 120 = undef := ((hd 18 rfl).2 120 rfl).trans (hd 18 rfl).1
  refine WL.pass (dj := 104) (c := false) rfl rfl rfl e1139 rfl ?_
  refine WL.nil ?_
  exact oneQ.mk ⟨rfl, st1137⟩
 ·intro vals ρ w1143 X hd h0 st1142
  have e1144 : ρ 104 = (.bool false) := ((hd 2 rfl).2 104 rfl).trans (hd 2 rfl).1
  have e1145 : ρ 121 = undef := ((hd 19 rfl).2 121 rfl).trans (hd 19 rfl).1
  refine W1 (OpT.pickF (.bool false) e1144 rfl ?_)
  refine WL.nil ?_
  exact oneQ.mk ⟨rfl, st1142⟩
 intro vals ρ1148 w1147 hv h0 st1146
 replace st1146 : St Z w0 w1147 (Blk g810 68 (cx [(sl p118 1 c119)] ex812) :: Blk g382 3 (cx [(ii 2)] ex384) :: Blk g229 3 (cx [(ii 1)] ex231) :: Blk b33 106 [(sl g229 1 cap230), (sl g382 1 cap383), vn] :: Blk b30 3 [(ii (-1)), (ii 0), (ii 1)] :: Blk og15 68 (cx [(sl p118 1 c119), (sl p221 1 c222), (sl p324 1 c325)] ox17) :: Blk p118 9 (cx [(vs 120)] e120) :: Blk p221 9 (cx [(vs 121)] e223) :: Blk p324 9 (cx [(vs 122)] e326) :: L) := st1146
 have e1149 : ρ1148 5 = (sl og15 3 oc16) := (h0 5 rfl).trans hI1060.1
 have e1150 : ρ1148 6 = (sl b30 3 3) := (h0 6 rfl).trans hI1060.2.1
 have e1151 : ρ1148 7 = (sl b33 3 3) := (h0 7 rfl).trans hI1060.2.2.1
 have e1152 : ρ1148 16 = (sl g810 1 cap811) := (h0 16 rfl).trans hI1060.2.2.2.1
 have e1153 : ρ1148 17 = (ii 1) := (h0 17 rfl).trans hI1060.2.2.2.2.1
 have e1154 : ρ1148 18 = (ii 2) := (h0 18 rfl).trans rfl
 have e1155 : ρ1148 92 = (ii 3) := (h0 92 rfl).trans hI1060.2.2.2.2.2.1
 have e1156 : ρ1148 93 = (ii 1) := (h0 93 rfl).trans hI1060.2.2.2.2.2.2.1
 have e1157 : ρ1148 95 = (sl b30 3 3) := (h0 95 rfl).trans hI1060.2.2.2.2.2.2.2.1
 have e1158 : ρ1148 96 = (ii 3) := (h0 96 rfl).trans hI1060.2.2.2.2.2.2.2.2.1
 have e1159 : ρ1148 97 = (ii 2) := (h0 97 rfl).trans hI1060.2.2.2.2.2.2.2.2.2
 have e1160 : ρ1148 122 = (.bool false) := ((hv 20 rfl).2 122 rfl).trans (hv 20 rfl).1
 clear hv h0
 refine Wnt ?_
 refine WC.condF e1160 ?_
 refine WC.skip ?_
 refine blkQ_n ?_
 refine thenQ_n ?_
 refine WC.region ?_
 refine W1 (OpT.iadd .i64 (2) (1) (3) e1159 rfl (by decide) ?_)
 refine W1 (OpT.move (ii 3) rfl ?_)
 refine WL.nil ?_
 refine unrQ_n ?_
 refine UL.cut (fun r => r 5 = (sl og15 3 oc16) ∧ r 6 = (sl b30 3 3) ∧ r 7 = (sl b33 3 3) ∧ r 16 = (sl g810 1 cap811) ∧ r 17 = (ii 1) ∧ r 92 = (ii 3) ∧ r 93 = (ii 1) ∧ r 95 = (sl b30 3 3) ∧ r 96 = (ii 3) ∧ r 97 = (ii 3)) ⟨e1149, e1150, e1151, e1152, e1153, e1155, e1156, e1157, e1158, rfl⟩ ?_
 intro ρ1161 hI1172
 refine UL.go ?_
 refine Wsr ?_
 refine W1 (OpT.lit (b := (decide ((3 : Int) < (3 : Int)))) (c := false) (by decide) (fun hk => OpT.ilt .i64 (3) (3) hI1172.2.2.2.2.2.2.2.2.2 hI1172.2.2.2.2.2.2.2.2.1 hk) ?_)
 refine Wnt ?_
 refine WC.seq ?_
 refine WC.condF rfl ?_
 refine WC.exit ?_
 refine thenQ_x ?_
 refine unrQ_x ?_
 refine blkQ_hit ?_
 refine thenQ_n ?_
 refine Wsr ?_
 refine W1 (OpT.move (sl b30 3 3) hI1172.2.1 ?_)
 refine W1 (OpT.move (ii 1) hI1172.2.2.2.2.1 ?_)
 refine W1 (OpT.idx 1 ⟨b30, 0, none⟩ ⟨b30, 1, none⟩ 3 3 .i64 1 tu106 ts3 rfl rfl (by decide) (by decide) rfl ?_)
 refine WL.stepN (OpT.storeS st1146 4 (ii (-1)) rfl ts3 rfl rfl rfl rfl rfl (fun w1173 st1174 => ?_))
 refine Wnt ?_
 refine WC.seq ?_
 refine Wsr ?_
 refine W1 (OpT.move (sl b33 3 3) hI1172.2.2.1 ?_)
 refine W1 (OpT.move (ii 1) hI1172.2.2.2.2.1 ?_)
 refine W1 (OpT.idx 1 ⟨b33, 0, none⟩ ⟨b33, 1, none⟩ 3 3 .i64 1 tu107 ts106 rfl rfl (by decide) (by decide) rfl ?_)
 refine W1 (OpT.loadS ⟨b33, 1, none⟩ (sl g382 1 cap383) ta106 rfl (st1174.cellB (i := 3) rfl rfl) ?_)
 refine W1 (OpT.litV (v := (ni 1)) (v' := (ii 1)) rfl (fun hk => OpT.lenS _ 1 cap383 rfl tu106 rfl hk) ?_)
 refine W1 (OpT.move (ii 0) rfl ?_)
 refine Wnt ?_
 refine WC.block ?_
 refine WC.unroll 12 ?_
 refine UL.cut (fun r => r 5 = (sl og15 3 oc16) ∧ r 6 = (sl b30 3 3) ∧ r 7 = (sl b33 3 3) ∧ r 16 = (sl g810 1 cap811) ∧ r 17 = (ii 1) ∧ r 92 = (ii 3) ∧ r 93 = (ii 1) ∧ r 131 = (sl g382 1 cap383) ∧ r 132 = (ii 1) ∧ r 133 = (ii 0)) ⟨hI1172.1, hI1172.2.1, hI1172.2.2.1, hI1172.2.2.2.1, hI1172.2.2.2.2.1, hI1172.2.2.2.2.2.1, hI1172.2.2.2.2.2.2.1, rfl, rfl, rfl⟩ ?_
 intro ρ1175 hI1186
 refine UL.go ?_
 refine Wsr ?_
 refine W1 (OpT.lit (b := (decide ((0 : Int) < (1 : Int)))) (c := true) (by decide) (fun hk => OpT.ilt .i64 (0) (1) hI1186.2.2.2.2.2.2.2.2.2 hI1186.2.2.2.2.2.2.2.2.1 hk) ?_)
 refine Wnt ?_
 refine WC.seq ?_
 refine WC.condT rfl ?_
 refine WC.skip ?_
 refine thenQ_n ?_
 refine WC.seq ?_
 refine WC.block ?_
 refine Wsr ?_
 refine W1 (OpT.idx 1 ⟨g382, 0, none⟩ ⟨g382, 0, none⟩ 1 cap383 .i64 0 tu106 ts3 hI1186.2.2.2.2.2.2.2.1 hI1186.2.2.2.2.2.2.2.2.2 (by decide) (by decide) rfl ?_)
 refine W1 (OpT.loadS ⟨g382, 0, none⟩ (ii 2) ta3 rfl (st1174.cellB (i := 1) rfl rfl) ?_)
 refine W1 (OpT.assign (ii 2) rfl ?_)
 refine Wnr ?_
 refine W1 (OpT.move (sl b30 3 3) hI1186.2.1 ?_)
 refine W1 (OpT.move (ii 2) rfl ?_)
 refine W1 (OpT.idx 1 ⟨b30, 0, none⟩ ⟨b30, 2, none⟩ 3 3 .i64 2 tu106 ts3 rfl rfl (by decide) (by decide) rfl ?_)
 refine W1 (OpT.loadS ⟨b30, 2, none⟩ (ii 1) ta3 rfl (st1174.cellB (i := 4) rfl rfl) ?_)
 refine W1 (OpT.isub .i64 (1) (1) (0) rfl rfl (by decide) ?_)
 refine W1 (OpT.idx 1 ⟨b30, 0, none⟩ ⟨b30, 2, none⟩ 3 3 .i64 2 tu106 ts3 rfl rfl (by decide) (by decide) rfl ?_)
 refine WL.stepN (OpT.storeS st1174 4 (ii 0) rfl ts3 rfl rfl rfl rfl rfl (fun w1187 st1188 => ?_))
 refine WL.nil ?_
 refine blkQ_n ?_
 refine thenQ_n ?_
 refine WC.region ?_
 refine W1 (OpT.iadd .i64 (0) (1) (1) hI1186.2.2.2.2.2.2.2.2.2 rfl (by decide) ?_)
 refine W1 (OpT.move (ii 1) rfl ?_)
 refine WL.nil ?_
 refine unrQ_n ?_
 refine UL.cut (fun r => r 5 = (sl og15 3 oc16) ∧ r 6 = (sl b30 3 3) ∧ r 7 = (sl b33 3 3) ∧ r 16 = (sl g810 1 cap811) ∧ r 17 = (ii 1) ∧ r 92 = (ii 3) ∧ r 93 = (ii 1) ∧ r 131 = (sl g382 1 cap383) ∧ r 132 = (ii 1) ∧ r 133 = (ii 1)) ⟨hI1186.1, hI1186.2.1, hI1186.2.2.1, hI1186.2.2.2.1, hI1186.2.2.2.2.1, hI1186.2.2.2.2.2.1, hI1186.2.2.2.2.2.2.1, hI1186.2.2.2.2.2.2.2.1, hI1186.2.2.2.2.2.2.2.2.1, rfl⟩ ?_
 intro ρ1189 hI1200
 refine UL.go ?_
 refine Wsr ?_
 refine W1 (OpT.lit (b := (decide ((1 : Int) < (1 : Int)))) (c := false) (by decide) (fun hk => OpT.ilt .i64 (1) (1) hI1200.2.2.2.2.2.2.2.2.2 hI1200.2.2.2.2.2.2.2.2.1 hk) ?_)
 refine Wnt ?_
 refine WC.seq ?_
 refine WC.condF rfl ?_
 refine WC.exit ?_
 refine thenQ_x ?_
 refine unrQ_x ?_
 refine blkQ_hit ?_
 refine thenQ_n ?_
 refine WC.region ?_
 refine W1 (OpT.move (sl g810 1 cap811) hI1200.2.2.2.1 ?_)
 refine W1 (OpT.move (sl og15 3 oc16) hI1200.1 ?_)
 refine W1 (OpT.move (ii 1) hI1200.2.2.2.2.1 ?_)
 refine W1 (OpT.idx 1 ⟨og15, 0, none⟩ ⟨og15, 1, none⟩ 3 oc16 .i64 1 tu74 ts68 rfl rfl (by decide) (by decide) rfl ?_)
 refine W1 (OpT.loadS ⟨og15, 1, none⟩ (sl p221 1 c222) ta68 rfl (st1188.cellB (i := 5) rfl rfl) ?_)
 refine W1 (OpT.buildSlice st1188 [(0, (sl p221 1 c222))] [(sl p221 1 c222)] tu74 ts68 tz68 (mp1 rfl) (by kernel_rfl) (by decide) (fun b1201 w1202 st1203 => ?_))
 have st1204 := St.shutRow (sz := 1) (n := 1) (cap := cap811) (cs := [(sl p118 1 c119)]) ((St.selD 10 [1, 0, 2, 3, 4, 5, 6, 7, 8, 9] rfl rfl (by decide) st1203) : St Z w0 w1202 (Blk g810 68 (cx [(sl p118 1 c119)] ex812) :: Blk b1201 68 [(sl p221 1 c222)] :: Blk g382 3 (cx [(ii 2)] ex384) :: Blk g229 3 (cx [(ii 1)] ex231) :: Blk b33 106 [(sl g229 1 cap230), (sl g382 1 cap383), vn] :: Blk b30 3 [(ii (-1)), (ii (-1)), (ii 0)] :: Blk og15 68 (cx [(sl p118 1 c119), (sl p221 1 c222), (sl p324 1 c325)] ox17) :: Blk p118 9 (cx [(vs 120)] e120) :: Blk p221 9 (cx [(vs 121)] e223) :: Blk p324 9 (cx [(vs 122)] e326) :: L)) (by simp; omega) (by omega) hm815 rfl
 have st1205 : St Z w0 w1202 (Blk b1201 68 [(sl p221 1 c222)] :: Row 68 1 (sl g810 1 cap811) 1 [(sl p118 1 c119)] :: Blk g382 3 (cx [(ii 2)] ex384) :: Blk g229 3 (cx [(ii 1)] ex231) :: Blk b33 106 [(sl g229 1 cap230), (sl g382 1 cap383), vn] :: Blk b30 3 [(ii (-1)), (ii (-1)), (ii 0)] :: Blk og15 68 (cx [(sl p118 1 c119), (sl p221 1 c222), (sl p324 1 c325)] ox17) :: Blk p118 9 (cx [(vs 120)] e120) :: Blk p221 9 (cx [(vs 121)] e223) :: Blk p324 9 (cx [(vs 122)] e326) :: L) := St.selT [Row 68 1 (sl g810 1 cap811) 1 [(sl p118 1 c119)], Blk b1201 68 [(sl p221 1 c222)], Blk g382 3 (cx [(ii 2)] ex384), Blk g229 3 (cx [(ii 1)] ex231), Blk b33 106 [(sl g229 1 cap230), (sl g382 1 cap383), vn], Blk b30 3 [(ii (-1)), (ii (-1)), (ii 0)], Blk og15 68 (cx [(sl p118 1 c119), (sl p221 1 c222), (sl p324 1 c325)] ox17), Blk p118 9 (cx [(vs 120)] e120), Blk p221 9 (cx [(vs 121)] e223), Blk p324 9 (cx [(vs 122)] e326)] [1, 0, 2, 3, 4, 5, 6, 7, 8, 9] rfl (by decide) st1204
 refine W1 (OpT.append st1205 1 tu74 ts68 tz68 rfl tb68 (by decide) rfl rfl rfl rfl (by decide) (by decide) (fun v1206 w1207 st1208 hn1209 => ?_))
 obtain ⟨g1210, cap1211, ex1212, rfl, hE1213, hc1214, hm1215, st1216⟩ := St.openRow (n := 2) (cs := [(sl p118 1 c119), (sl p221 1 c222)]) (by decide) st1208
 replace st1216 : St Z w0 w1207 (Blk g1210 68 (cx [(sl p118 1 c119), (sl p221 1 c222)] ex1212) :: Blk g382 3 (cx [(ii 2)] ex384) :: Blk g229 3 (cx [(ii 1)] ex231) :: Blk b33 106 [(sl g229 1 cap230), (sl g382 1 cap383), vn] :: Blk b30 3 [(ii (-1)), (ii (-1)), (ii 0)] :: Blk og15 68 (cx [(sl p118 1 c119), (sl p221 1 c222), (sl p324 1 c325)] ox17) :: Blk p118 9 (cx [(vs 120)] e120) :: Blk p221 9 (cx [(vs 121)] e223) :: Blk p324 9 (cx [(vs 122)] e326) :: L) := st1216
 refine W1 (OpT.assign (sl g1210 2 cap1211) rfl ?_)
 refine WL.nil ?_
 refine blkQ_n ?_
 refine thenQ_n ?_
 refine WC.region ?_
 refine W1 (OpT.iadd .i64 (1) (1) (2) hI1200.2.2.2.2.2.2.1 rfl (by decide) ?_)
 refine W1 (OpT.move (ii 2) rfl ?_)
 refine WL.nil ?_
 refine unrQ_n ?_
 refine UL.cut (fun r => r 5 = (sl og15 3 oc16) ∧ r 6 = (sl b30 3 3) ∧ r 7 = (sl b33 3 3) ∧ r 16 = (sl g1210 2 cap1211) ∧ r 92 = (ii 3) ∧ r 93 = (ii 2)) ⟨hI1200.1, hI1200.2.1, hI1200.2.2.1, rfl, hI1200.2.2.2.2.2.1, rfl⟩ ?_
 intro ρ1217 hI1224
 refine UL.go ?_
 refine Wsr ?_
 refine W1 (OpT.lit (b := (decide ((2 : Int) < (3 : Int)))) (c := true) (by decide) (fun hk => OpT.ilt .i64 (2) (3) hI1224.2.2.2.2.2 hI1224.2.2.2.2.1 hk) ?_)
 refine Wnt ?_
 refine WC.seq ?_
 refine WC.condT rfl ?_
 refine WC.skip ?_
 refine thenQ_n ?_
 refine WC.seq ?_
 refine WC.block ?_
 refine Wsr ?_
 refine W1 (OpT.assign (ii (-1)) rfl ?_)
 refine Wnt ?_
 refine WC.seq ?_
 refine Wsr ?_
 refine W1 (OpT.move (sl b30 3 3) hI1224.2.1 ?_)
 refine W1 (OpT.litV (v := (ni 3)) (v' := (ii 3)) rfl (fun hk => OpT.lenS _ 3 3 rfl tu106 rfl hk) ?_)
 refine W1 (OpT.move (ii 0) rfl ?_)
 refine Wnt ?_
 refine WC.block ?_
 refine WC.unroll 12 ?_
 refine UL.cut (fun r => r 5 = (sl og15 3 oc16) ∧ r 6 = (sl b30 3 3) ∧ r 7 = (sl b33 3 3) ∧ r 16 = (sl g1210 2 cap1211) ∧ r 17 = (ii (-1)) ∧ r 92 = (ii 3) ∧ r 93 = (ii 2) ∧ r 95 = (sl b30 3 3) ∧ r 96 = (ii 3) ∧ r 97 = (ii 0)) ⟨hI1224.1, hI1224.2.1, hI1224.2.2.1, hI1224.2.2.2.1, rfl, hI1224.2.2.2.2.1, hI1224.2.2.2.2.2, rfl, rfl, rfl⟩ ?_
 intro ρ1225 hI1236
 refine UL.go ?_
 refine Wsr ?_
 refine W1 (OpT.lit (b := (decide ((0 : Int) < (3 : Int)))) (c := true) (by decide) (fun hk => OpT.ilt .i64 (0) (3) hI1236.2.2.2.2.2.2.2.2.2 hI1236.2.2.2.2.2.2.2.2.1 hk) ?_)
 refine Wnt ?_
 refine WC.seq ?_
 refine WC.condT rfl ?_
 refine WC.skip ?_
 refine thenQ_n ?_
 refine WC.seq ?_
 refine WC.block ?_
 refine Wsr ?_
 refine W1 (OpT.move (ii 0) hI1236.2.2.2.2.2.2.2.2.2 ?_)
 refine W1 (OpT.idx 1 ⟨b30, 0, none⟩ ⟨b30, 0, none⟩ 3 3 .i64 0 tu106 ts3 hI1236.2.2.2.2.2.2.2.1 hI1236.2.2.2.2.2.2.2.2.2 (by decide) (by decide) rfl ?_)
 refine W1 (OpT.loadS ⟨b30, 0, none⟩ (ii (-1)) ta3 rfl (st1216.cellB (i := 4) rfl rfl) ?_)
 refine W1 (OpT.assign (ii 0) rfl ?_)
 refine W1 (OpT.assign (ii (-1)) rfl ?_)
 refine Wnt ?_
 refine WC.seq ?_
 refine WC.draw 21 (fun jj vv => match jj with | 0 => vv = (ii (-1)) | 1 => vv = (.bool false) | 2 => vv = (.bool false) | 3 => vv = undef | 4 => vv = undef | 5 => vv = undef | 6 => vv = undef | 7 => vv = undef | 8 => vv = undef | 9 => vv = undef | 10 => vv = undef | 11 => vv = undef | 12 => vv = undef | 13 => vv = undef | 14 => vv = undef | 15 => vv = undef | 16 => vv = undef | 17 => vv = undef | 18 => vv = undef | 19 => vv = undef | 20 => vv = (.bool false) | _ => True) (fun _ _ => []) st1216 fmix (by kernel_rfl) ((obS (obS (obS (obS (obS (obS (obS (obS (obS (obS (obS (obS (obS (obS (obS (obS (obS (obS (obS (obS (obS ob0 ?_) ?_) ?_) ?_) ?_) ?_) ?_) ?_) ?_) ?_) ?_) ?_) ?_) ?_) ?_) ?_) ?_) ?_) ?_) ?_) ?_)) ?_
 ·intro vals ρ w1238 X hd h0 st1237
  have e1239 : ρ 19 = (ii (-1)) := (h0 19 rfl).trans rfl
  refine W1 (OpT.move (ii (-1)) e1239 ?_)
  refine WL.nil ?_
  exact oneQ.mk ⟨rfl, st1237⟩
 ·intro vals ρ w1241 X hd h0 st1240
  have e1242 : ρ 102 = (ii (-1)) := ((hd 0 rfl).2 102 rfl).trans (hd 0 rfl).1
  refine W1 (OpT.lit (b := (decide ((-1 : Int) = (0 : Int)))) (c := false) (by decide) (fun hk => OpT.ieq .i64 (-1) (0) e1242 rfl hk) ?_)
  refine WL.nil ?_
  exact oneQ.mk ⟨rfl, st1240⟩
 ·intro vals ρ w1244 X hd h0 st1243
  have e1245 : ρ 103 = (.bool false) := ((hd 1 rfl).2 103 rfl).trans (hd 1 rfl).1
  refine W1 (OpT.move (.bool false) e1245 ?_)
  refine WL.nil ?_
  exact oneQ.mk ⟨rfl, st1243⟩
 ·intro vals ρ w1247 X hd h0 st1246
  have e1248 : ρ 17 = (ii (-1)) := (h0 17 rfl).trans hI1236.2.2.2.2.1
  have e1249 : ρ 104 = (.bool false) := ((hd 2 rfl).2 104 rfl).trans (hd 2 rfl).1
  refine WL.pass (dj := 104) (c := false) rfl rfl rfl e1249 rfl ?_
  refine WL.nil ?_
  exact oneQ.mk ⟨rfl, st1246⟩
 ·intro vals ρ w1251 X hd h0 st1250
  have e1252 : ρ 104 = (.bool false) := ((hd 2 rfl).2 104 rfl).trans (hd 2 rfl).1
  have e1253 : ρ 105 = undef := ((hd 3 rfl).2 105 rfl).trans (hd 3 rfl).1
  refine WL.pass (dj := 104) (c := false) rfl rfl rfl e1252 rfl ?_
  refine WL.nil ?_
  exact oneQ.mk ⟨rfl, st1250⟩
 ·intro vals ρ w1255 X hd h0 st1254
  have e1256 : ρ 104 = (.bool false) := ((hd 2 rfl).2 104 rfl).trans (hd 2 rfl).1
  have e1257 : ρ 106 = undef := ((hd 4 rfl).2 106 rfl).trans (hd 4 rfl).1
  refine WL.pass (dj := 104) (c := false) rfl rfl rfl e1256 rfl ?_
  refine WL.nil ?_
  exact oneQ.mk ⟨rfl, st1254⟩
 ·intro vals ρ w1259 X hd h0 st1258
  have e1260 : ρ 5 = (sl og15 3 oc16) := (h0 5 rfl).trans hI1236.1
  have e1261 : ρ 107 = undef := ((hd 5 rfl).2 107 rfl).trans (hd 5 rfl).1
  refine WL.passU (dj := 107) rfl rfl e1261 ?_
  refine WL.nil ?_
  exact oneQ.mk ⟨rfl, st1258⟩
 ·intro vals ρ w1263 X hd h0 st1262
  have e1264 : ρ 18 = (ii 0) := (h0 18 rfl).trans rfl
  have e1265 : ρ 107 = undef := ((hd 5 rfl).2 107 rfl).trans (hd 5 rfl).1
  refine WL.passU (dj := 107) rfl rfl e1265 ?_
  refine WL.nil ?_
  exact oneQ.mk ⟨rfl, st1262⟩
 ·intro vals ρ w1267 X hd h0 st1266
  have e1268 : ρ 107 = undef := ((hd 5 rfl).2 107 rfl).trans (hd 5 rfl).1
  have e1269 : ρ 108 = undef := ((hd 6 rfl).2 108 rfl).trans (hd 6 rfl).1
  have e1270 : ρ 109 = undef := ((hd 7 rfl).2 109 rfl).trans (hd 7 rfl).1
  refine WL.passU (dj := 107) rfl rfl e1268 ?_
  refine WL.nil ?_
  exact oneQ.mk ⟨rfl, st1266⟩
 ·intro vals ρ w1272 X hd h0 st1271
  have e1273 : ρ 107 = undef := ((hd 5 rfl).2 107 rfl).trans (hd 5 rfl).1
  have e1274 : ρ 110 = undef := ((hd 8 rfl).2 110 rfl).trans (hd 8 rfl).1
  refine WL.passU (dj := 107) rfl rfl e1273 ?_
  refine WL.nil ?_
  exact oneQ.mk ⟨rfl, st1271⟩
 ·intro vals ρ w1276 X hd h0 st1275
  have e1277 : ρ 107 = undef := ((hd 5 rfl).2 107 rfl).trans (hd 5 rfl).1
  have e1278 : ρ 111 = undef := ((hd 9 rfl).2 111 rfl).trans (hd 9 rfl).1
  refine WL.passU (dj := 107) rfl rfl e1277 ?_
  refine WL.nil ?_
  exact oneQ.mk ⟨rfl, st1275⟩
 ·intro vals ρ w1280 X hd h0 st1279
  have e1281 : ρ 107 = undef := ((hd 5 rfl).2 107 rfl).trans (hd 5 rfl).1
  have e1282 : ρ 112 = undef := ((hd 10 rfl).2 112 rfl).trans (hd 10 rfl).1
  refine WL.passU (dj := 107) rfl rfl e1281 ?_
  refine WL.nil ?_
  exact oneQ.mk ⟨rfl, st1279⟩
 ·intro vals ρ w1284 X hd h0 st1283
  have e1285 : ρ 5 = (sl og15 3 oc16) := (h0 5 rfl).trans hI1236.1
  have e1286 : ρ 107 = undef := ((hd 5 rfl).2 107 rfl).trans (hd 5 rfl).1
  refine WL.passU (dj := 107) rfl rfl e1286 ?_
  refine WL.nil ?_
  exact oneQ.mk ⟨rfl, st1283⟩
 ·intro vals ρ w1288 X hd h0 st1287
  have e1289 : ρ 17 = (ii (-1)) := (h0 17 rfl).trans hI1236.2.2.2.2.1
  have e1290 : ρ 107 = undef := ((hd 5 rfl).2 107 rfl).trans (hd 5 rfl).1
  refine WL.passU (dj := 107) rfl rfl e1290 ?_
  refine WL.nil ?_
  exact oneQ.mk ⟨rfl, st1287⟩
 ·intro vals ρ w1292 X hd h0 st1291
  have e1293 : ρ 107 = undef := ((hd 5 rfl).2 107 rfl).trans (hd 5 rfl).1
  have e1294 : ρ 114 = undef := ((hd 12 rfl).2 114 rfl).trans (hd 12 rfl).1
  have e1295 : ρ 115 = undef := ((hd 13 rfl).2 115 rfl).trans (hd 13 rfl).1
  refine WL.passU (dj := 107) rfl rfl e1293 ?_
  refine WL.nil ?_
  exact oneQ.mk ⟨rfl, st1291⟩
 ·intro vals ρ w1297 X hd h0 st1296
  have e1298 : ρ 107 = undef := ((hd 5 rfl).2 107 rfl).trans (hd 5 rfl).1
  have e1299 : ρ 116 = undef := ((hd 14 rfl).2 116 rfl).trans (hd 14 rfl).1
  refine WL.passU (dj := 107) rfl rfl e1298 ?_
  refine WL.nil ?_
  exact oneQ.mk ⟨rfl, st1296⟩
 ·intro vals ρ w1301 X hd h0 st1300
  have e1302 : ρ 107 = undef := ((hd 5 rfl).2 107 rfl).trans (hd 5 rfl).1
  have e1303 : ρ 117 = undef := ((hd 15 rfl).2 117 rfl).trans (hd 15 rfl).1
  refine WL.passU (dj := 107) rfl rfl e1302 ?_
  refine WL.nil ?_
  exact oneQ.mk ⟨rfl, st1300⟩
 ·intro vals ρ w1305 X hd h0 st1304
  have e1306 : ρ 107 = undef := ((hd 5 rfl).2 107 rfl).trans (hd 5 rfl).1
  have e1307 : ρ 118 = undef := ((hd 16 rfl).2 118 rfl).trans (hd 16 rfl).1
  refine WL.passU (dj := 107) rfl rfl e1306 ?_
  refine WL.nil ?_
  exact oneQ.mk ⟨rfl, st1304⟩
 ·intro vals ρ w1309 X hd h0 st1308
  have e1310 : ρ 107 = undef := ((hd 5 rfl).2 107 rfl).trans (hd 5 rfl).1
  have e1311 : ρ 113 = undef := ((hd 11 rfl).2 113 rfl).trans (hd 11 rfl).1
  have e1312 : ρ 119 = undef := ((hd 17 rfl).2 119 rfl).trans (hd 17 rfl).1
  refine WL.passU (dj := 107) rfl rfl e1310 ?_
  refine WL.nil ?_
  exact oneQ.mk ⟨rfl, st1308⟩
 ·intro vals ρ w1314 X hd h0 st1313
  have e1315 : ρ 104 = (.bool false) := ((hd 2 rfl).2 104 rfl).trans (hd 2 rfl).1
  have e1316 : ρ 107 = undef := ((hd 5 rfl).2 107 rfl).trans (hd 5 rfl).1
  have e1317 : ρ 120 = undef := ((hd 18 rfl).2 120 rfl).trans (hd 18 rfl).1
  refine WL.pass (dj := 104) (c := false) rfl rfl rfl e1315 rfl ?_
  refine WL.nil ?_
  exact oneQ.mk ⟨rfl, st1313⟩
 ·intro vals ρ w1319 X hd h0 st1318
  have e1320 : ρ 104 = (.bool false) := ((hd 2 rfl).2 104 rfl).trans (hd 2 rfl).1
  have e1321 : ρ 121 = undef := ((hd 19 rfl).2 121 rfl).trans (hd 19 rfl).1
  refine W1 (OpT.pickF (.bool false) e1320 rfl ?_)
  refine WL.nil ?_
  exact oneQ.mk ⟨rfl, st1318⟩
 intro vals ρ1324 w1323 hv h0 st1322
 replace st1322 : St Z w0 w1323 (Blk g1210 68 (cx [(sl p118 1 c119), (sl p221 1 c222)] ex1212) :: Blk g382 3 (cx [(ii 2)] ex384) :: Blk g229 3 (cx [(ii 1)] ex231) :: Blk b33 106 [(sl g229 1 cap230), (sl g382 1 cap383), vn] :: Blk b30 3 [(ii (-1)), (ii (-1)), (ii 0)] :: Blk og15 68 (cx [(sl p118 1 c119), (sl p221 1 c222), (sl p324 1 c325)] ox17) :: Blk p118 9 (cx [(vs 120)] e120) :: Blk p221 9 (cx [(vs 121)] e223) :: Blk p324 9 (cx [(vs 122)] e326) :: L) := st1322
 have e1325 : ρ1324 5 = (sl og15 3 oc16) := (h0 5 rfl).trans hI1236.1
 have e1326 : ρ1324 6 = (sl b30 3 3) := (h0 6 rfl).trans hI1236.2.1
 have e1327 : ρ1324 7 = (sl b33 3 3) := (h0 7 rfl).trans hI1236.2.2.1
 have e1328 : ρ1324 16 = (sl g1210 2 cap1211) := (h0 16 rfl).trans hI1236.2.2.2.1
 have e1329 : ρ1324 17 = (ii (-1)) := (h0 17 rfl).trans hI1236.2.2.2.2.1
 have e1330 : ρ1324 18 = (ii 0) := (h0 18 rfl).trans rfl
 have e1331 : ρ1324 92 = (ii 3) := (h0 92 rfl).trans hI1236.2.2.2.2.2.1
 have e1332 : ρ1324 93 = (ii 2) := (h0 93 rfl).trans hI1236.2.2.2.2.2.2.1
 have e1333 : ρ1324 95 = (sl b30 3 3) := (h0 95 rfl).trans hI1236.2.2.2.2.2.2.2.1
 have e1334 : ρ1324 96 = (ii 3) := (h0 96 rfl).trans hI1236.2.2.2.2.2.2.2.2.1
 have e1335 : ρ1324 97 = (ii 0) := (h0 97 rfl).trans hI1236.2.2.2.2.2.2.2.2.2
 have e1336 : ρ1324 122 = (.bool false) := ((hv 20 rfl).2 122 rfl).trans (hv 20 rfl).1
 clear hv h0
 refine Wnt ?_
 refine WC.condF e1336 ?_
 refine WC.skip ?_
 refine blkQ_n ?_
 refine thenQ_n ?_
 refine WC.region ?_
 refine W1 (OpT.iadd .i64 (0) (1) (1) e1335 rfl (by decide) ?_)
 refine W1 (OpT.move (ii 1) rfl ?_)
 refine WL.nil ?_
 refine unrQ_n ?_
 refine UL.cut (fun r => r 5 = (sl og15 3 oc16) ∧ r 6 = (sl b30 3 3) ∧ r 7 = (sl b33 3 3) ∧ r 16 = (sl g1210 2 cap1211) ∧ r 17 = (ii (-1)) ∧ r 92 = (ii 3) ∧ r 93 = (ii 2) ∧ r 95 = (sl b30 3 3) ∧ r 96 = (ii 3) ∧ r 97 = (ii 1)) ⟨e1325, e1326, e1327, e1328, e1329, e1331, e1332, e1333, e1334, rfl⟩ ?_
 intro ρ1337 hI1348
 refine UL.go ?_
 refine Wsr ?_
 refine W1 (OpT.lit (b := (decide ((1 : Int) < (3 : Int)))) (c := true) (by decide) (fun hk => OpT.ilt .i64 (1) (3) hI1348.2.2.2.2.2.2.2.2.2 hI1348.2.2.2.2.2.2.2.2.1 hk) ?_)
 refine Wnt ?_
 refine WC.seq ?_
 refine WC.condT rfl ?_
 refine WC.skip ?_
 refine thenQ_n ?_
 refine WC.seq ?_
 refine WC.block ?_
 refine Wsr ?_
 refine W1 (OpT.move (ii 1) hI1348.2.2.2.2.2.2.2.2.2 ?_)
 refine W1 (OpT.idx 1 ⟨b30, 0, none⟩ ⟨b30, 1, none⟩ 3 3 .i64 1 tu106 ts3 hI1348.2.2.2.2.2.2.2.1 hI1348.2.2.2.2.2.2.2.2.2 (by decide) (by decide) rfl ?_)
 refine W1 (OpT.loadS ⟨b30, 1, none⟩ (ii (-1)) ta3 rfl (st1322.cellB (i := 4) rfl rfl) ?_)
 refine W1 (OpT.assign (ii 1) rfl ?_)
 refine W1 (OpT.assign (ii (-1)) rfl ?_)
 refine Wnt ?_
 refine WC.seq ?_
 refine WC.draw 21 (fun jj vv => match jj with | 0 => vv = (ii (-1)) | 1 => vv = (.bool false) | 2 => vv = (.bool false) | 3 => vv = undef | 4 => vv = undef | 5 => vv = undef | 6 => vv = undef | 7 => vv = undef | 8 => vv = undef | 9 => vv = undef | 10 => vv = undef | 11 => vv = undef | 12 => vv = undef | 13 => vv = undef | 14 => vv = undef | 15 => vv = undef | 16 => vv = undef | 17 => vv = undef | 18 => vv = undef | 19 => vv = undef | 20 => vv = (.bool false) | _ => True) (fun _ _ => []) st1322 fmix (by kernel_rfl) ((obS (obS (obS (obS (obS (obS (obS (obS (obS (obS (obS (obS (obS (obS (obS (obS (obS (obS (obS (obS (obS ob0 ?_) ?_) ?_) ?_) ?_) ?_) ?_) ?_) ?_) ?_) ?_) ?_) ?_) ?_) ?_) ?_) ?_) ?_) ?_) ?_) ?_)) ?_
 ·intro vals ρ w1350 X hd h0 st1349
  have e1351 : ρ 19 = (ii (-1)) := (h0 19 rfl).trans rfl
  refine W1 (OpT.move (ii (-1)) e1351 ?_)
  refine WL.nil ?_
  exact oneQ.mk ⟨rfl, st1349⟩
 ·intro vals ρ w1353 X hd h0 st1352
  have e1354 : ρ 102 = (ii (-1)) := ((hd 0 rfl).2 102 rfl).trans (hd 0 rfl).1
  refine W1 (OpT.lit (b := (decide ((-1 : Int) = (0 : Int)))) (c := false) (by decide) (fun hk => OpT.ieq .i64 (-1) (0) e1354 rfl hk) ?_)
  refine WL.nil ?_
  exact oneQ.mk ⟨rfl, st1352⟩
 ·intro vals ρ w1356 X hd h0 st1355
  have e1357 : ρ 103 = (.bool false) := ((hd 1 rfl).2 103 rfl).trans (hd 1 rfl).1
  refine W1 (OpT.move (.bool false) e1357 ?_)
  refine WL.nil ?_
  exact oneQ.mk ⟨rfl, st1355⟩
 ·intro vals ρ w1359 X hd h0 st1358
  have e1360 : ρ 17 = (ii (-1)) := (h0 17 rfl).trans hI1348.2.2.2.2.1
  have e1361 : ρ 104 = (.bool false) := ((hd 2 rfl).2 104 rfl).trans (hd 2 rfl).1
  refine WL.pass (dj := 104) (c := false) rfl rfl rfl e1361 rfl ?_
  refine WL.nil ?_
  exact oneQ.mk ⟨rfl, st1358⟩
 ·intro vals ρ w1363 X hd h0 st1362
  have e1364 : ρ 104 = (.bool false) := ((hd 2 rfl).2 104 rfl).trans (hd 2 rfl).1
  have e1365 : ρ 105 = undef := ((hd 3 rfl).2 105 rfl).trans (hd 3 rfl).1
  refine WL.pass (dj := 104) (c := false) rfl rfl rfl e1364 rfl ?_
  refine WL.nil ?_
  exact oneQ.mk ⟨rfl, st1362⟩
 ·intro vals ρ w1367 X hd h0 st1366
  have e1368 : ρ 104 = (.bool false) := ((hd 2 rfl).2 104 rfl).trans (hd 2 rfl).1
  have e1369 : ρ 106 = undef := ((hd 4 rfl).2 106 rfl).trans (hd 4 rfl).1
  refine WL.pass (dj := 104) (c := false) rfl rfl rfl e1368 rfl ?_
  refine WL.nil ?_
  exact oneQ.mk ⟨rfl, st1366⟩
 ·intro vals ρ w1371 X hd h0 st1370
  have e1372 : ρ 5 = (sl og15 3 oc16) := (h0 5 rfl).trans hI1348.1
  have e1373 : ρ 107 = undef := ((hd 5 rfl).2 107 rfl).trans (hd 5 rfl).1
  refine WL.passU (dj := 107) rfl rfl e1373 ?_
  refine WL.nil ?_
  exact oneQ.mk ⟨rfl, st1370⟩
 ·intro vals ρ w1375 X hd h0 st1374
  have e1376 : ρ 18 = (ii 1) := (h0 18 rfl).trans rfl
  have e1377 : ρ 107 = undef := ((hd 5 rfl).2 107 rfl).trans (hd 5 rfl).1
  refine WL.passU (dj := 107) rfl rfl e1377 ?_
  refine WL.nil ?_
  exact oneQ.mk ⟨rfl, st1374⟩
 ·intro vals ρ w1379 X hd h0 st1378
  have e1380 : ρ 107 = undef := ((hd 5 rfl).2 107 rfl).trans (hd 5 rfl).1
  have e1381 : ρ 108 = undef := ((hd 6 rfl).2 108 rfl).trans (hd 6 rfl).1
  have e1382 : ρ 109 = undef := ((hd 7 rfl).2 109 rfl).trans (hd 7 rfl).1
  refine WL.passU (dj := 107) rfl rfl e1380 ?_
  refine WL.nil ?_
  exact oneQ.mk ⟨rfl, st1378⟩
 ·intro vals ρ w1384 X hd h0 st1383
  have e1385 : ρ 107 = undef := ((hd 5 rfl).2 107 rfl).trans (hd 5 rfl).1
  have e1386 : ρ 110 = undef := ((hd 8 rfl).2 110 rfl).trans (hd 8 rfl).1
  refine WL.passU (dj := 107) rfl rfl e1385 ?_
  refine WL.nil ?_
  exact oneQ.mk ⟨rfl, st1383⟩
 ·intro vals ρ w1388 X hd h0 st1387
  have e1389 : ρ 107 = undef := ((hd 5 rfl).2 107 rfl).trans (hd 5 rfl).1
  have e1390 : ρ 111 = undef := ((hd 9 rfl).2 111 rfl).trans (hd 9 rfl).1
  refine WL.passU (dj := 107) rfl rfl e1389 ?_
  refine WL.nil ?_
  exact oneQ.mk ⟨rfl, st1387⟩
 ·intro vals ρ w1392 X hd h0 st1391
  have e1393 : ρ 107 = undef := ((hd 5 rfl).2 107 rfl).trans (hd 5 rfl).1
  have e1394 : ρ 112 = undef := ((hd 10 rfl).2 112 rfl).trans (hd 10 rfl).1
  refine WL.passU (dj := 107) rfl rfl e1393 ?_
  refine WL.nil ?_
  exact oneQ.mk ⟨rfl, st1391⟩
 ·intro vals ρ w1396 X hd h0 st1395
  have e1397 : ρ 5 = (sl og15 3 oc16) := (h0 5 rfl).trans hI1348.1
  have e1398 : ρ 107 = undef := ((hd 5 rfl).2 107 rfl).trans (hd 5 rfl).1
  refine WL.passU (dj := 107) rfl rfl e1398 ?_
  refine WL.nil ?_
  exact oneQ.mk ⟨rfl, st1395⟩
 ·intro vals ρ w1400 X hd h0 st1399
  have e1401 : ρ 17 = (ii (-1)) := (h0 17 rfl).trans hI1348.2.2.2.2.1
  have e1402 : ρ 107 = undef := ((hd 5 rfl).2 107 rfl).trans (hd 5 rfl).1
  refine WL.passU (dj := 107) rfl rfl e1402 ?_
  refine WL.nil ?_
  exact oneQ.mk ⟨rfl, st1399⟩
 ·intro vals ρ w1404 X hd h0 st1403
  have e1405 : ρ 107 = undef := ((hd 5 rfl).2 107 rfl).trans (hd 5 rfl).1
  have e1406 : ρ 114 = undef := ((hd 12 rfl).2 114 rfl).trans (hd 12 rfl).1
  have e1407 : ρ 115 = undef := ((hd 13 rfl).2 115 rfl).trans (hd 13 rfl).1
  refine WL.passU (dj := 107) rfl rfl e1405 ?_
  refine WL.nil ?_
  exact oneQ.mk ⟨rfl, st1403⟩
 ·intro vals ρ w1409 X hd h0 st1408
  have e1410 : ρ 107 = undef := ((hd 5 rfl).2 107 rfl).trans (hd 5 rfl).1
  have e1411 : ρ 116 = undef := ((hd 14 rfl).2 116 rfl).trans (hd 14 rfl).1
  refine WL.passU (dj := 107) rfl rfl e1410 ?_
  refine WL.nil ?_
  exact oneQ.mk ⟨rfl, st1408⟩
 ·intro vals ρ w1413 X hd h0 st1412
  have e1414 : ρ 107 = undef := ((hd 5 rfl).2 107 rfl).trans (hd 5 rfl).1
  have e1415 : ρ 117 = undef := ((hd 15 rfl).2 117 rfl).trans (hd 15 rfl).1
  refine WL.passU (dj := 107) rfl rfl e1414 ?_
  refine WL.nil ?_
  exact oneQ.mk ⟨rfl, st1412⟩
 ·intro vals ρ w1417 X hd h0 st1416
  have e1418 : ρ 107 = undef := ((hd 5 rfl).2 107 rfl).trans (hd 5 rfl).1
  have e1419 : ρ 118 = undef := ((hd 16 rfl).2 118 rfl).trans (hd 16 rfl).1
  refine WL.passU (dj := 107) rfl rfl e1418 ?_
  refine WL.nil ?_
  exact oneQ.mk ⟨rfl, st1416⟩
 ·intro vals ρ w1421 X hd h0 st1420
  have e1422 : ρ 107 = undef := ((hd 5 rfl).2 107 rfl).trans (hd 5 rfl).1
  have e1423 : ρ 113 = undef := ((hd 11 rfl).2 113 rfl).trans (hd 11 rfl).1
  have e1424 : ρ 119 = undef := ((hd 17 rfl).2 119 rfl).trans (hd 17 rfl).1
  refine WL.passU (dj := 107) rfl rfl e1422 ?_
  refine WL.nil ?_
  exact oneQ.mk ⟨rfl, st1420⟩
 ·intro vals ρ w1426 X hd h0 st1425
  have e1427 : ρ 104 = (.bool false) := ((hd 2 rfl).2 104 rfl).trans (hd 2 rfl).1
  have e1428 : ρ 107 = undef := ((hd 5 rfl).2 107 rfl).trans (hd 5 rfl).1
  have e1429 : ρ 120 = undef := ((hd 18 rfl).2 120 rfl).trans (hd 18 rfl).1
  refine WL.pass (dj := 104) (c := false) rfl rfl rfl e1427 rfl ?_
  refine WL.nil ?_
  exact oneQ.mk ⟨rfl, st1425⟩
 ·intro vals ρ w1431 X hd h0 st1430
  have e1432 : ρ 104 = (.bool false) := ((hd 2 rfl).2 104 rfl).trans (hd 2 rfl).1
  have e1433 : ρ 121 = undef := ((hd 19 rfl).2 121 rfl).trans (hd 19 rfl).1
  refine W1 (OpT.pickF (.bool false) e1432 rfl ?_)
  refine WL.nil ?_
  exact oneQ.mk ⟨rfl, st1430⟩
 intro vals ρ1436 w1435 hv h0 st1434
 replace st1434 : St Z w0 w1435 (Blk g1210 68 (cx [(sl p118 1 c119), (sl p221 1 c222)] ex1212) :: Blk g382 3 (cx [(ii 2)] ex384) :: Blk g229 3 (cx [(ii 1)] ex231) :: Blk b33 106 [(sl g229 1 cap230), (sl g382 1 cap383), vn] :: Blk b30 3 [(ii (-1)), (ii (-1)), (ii 0)] :: Blk og15 68 (cx [(sl p118 1 c119), (sl p221 1 c222), (sl p324 1 c325)] ox17) :: Blk p118 9 (cx [(vs 120)] e120) :: Blk p221 9 (cx [(vs 121)] e223) :: Blk p324 9 (cx [(vs 122)] e326) :: L) := st1434
 have e1437 : ρ1436 5 = (sl og15 3 oc16) := (h0 5 rfl).trans hI1348.1
 have e1438 : ρ1436 6 = (sl b30 3 3) := (h0 6 rfl).trans hI1348.2.1
 have e1439 : ρ1436 7 = (sl b33 3 3) := (h0 7 rfl).trans hI1348.2.2.1
 have e1440 : ρ1436 16 = (sl g1210 2 cap1211) := (h0 16 rfl).trans hI1348.2.2.2.1
 have e1441 : ρ1436 17 = (ii (-1)) := (h0 17 rfl).trans hI1348.2.2.2.2.1
 have e1442 : ρ1436 18 = (ii 1) := (h0 18 rfl).trans rfl
 have e1443 : ρ1436 92 = (ii 3) := (h0 92 rfl).trans hI1348.2.2.2.2.2.1
 have e1444 : ρ1436 93 = (ii 2) := (h0 93 rfl).trans hI1348.2.2.2.2.2.2.1
 have e1445 : ρ1436 95 = (sl b30 3 3) := (h0 95 rfl).trans hI1348.2.2.2.2.2.2.2.1
 have e1446 : ρ1436 96 = (ii 3) := (h0 96 rfl).trans hI1348.2.2.2.2.2.2.2.2.1
 have e1447 : ρ1436 97 = (ii 1) := (h0 97 rfl).trans hI1348.2.2.2.2.2.2.2.2.2
 have e1448 : ρ1436 122 = (.bool false) := ((hv 20 rfl).2 122 rfl).trans (hv 20 rfl).1
 clear hv h0
 refine Wnt ?_
 refine WC.condF e1448 ?_
 refine WC.skip ?_
 refine blkQ_n ?_
 refine thenQ_n ?_
 refine WC.region ?_
 refine W1 (OpT.iadd .i64 (1) (1) (2) e1447 rfl (by decide) ?_)
 refine W1 (OpT.move (ii 2) rfl ?_)
 refine WL.nil ?_
 refine unrQ_n ?_
 refine UL.cut (fun r => r 5 = (sl og15 3 oc16) ∧ r 6 = (sl b30 3 3) ∧ r 7 = (sl b33 3 3) ∧ r 16 = (sl g1210 2 cap1211) ∧ r 17 = (ii (-1)) ∧ r 92 = (ii 3) ∧ r 93 = (ii 2) ∧ r 95 = (sl b30 3 3) ∧ r 96 = (ii 3) ∧ r 97 = (ii 2)) ⟨e1437, e1438, e1439, e1440, e1441, e1443, e1444, e1445, e1446, rfl⟩ ?_
 intro ρ1449 hI1460
 refine UL.go ?_
 refine Wsr ?_
 refine W1 (OpT.lit (b := (decide ((2 : Int) < (3 : Int)))) (c := true) (by decide) (fun hk => OpT.ilt .i64 (2) (3) hI1460.2.2.2.2.2.2.2.2.2 hI1460.2.2.2.2.2.2.2.2.1 hk) ?_)
 refine Wnt ?_
 refine WC.seq ?_
 refine WC.condT rfl ?_
 refine WC.skip ?_
 refine thenQ_n ?_
 refine WC.seq ?_
 refine WC.block ?_
 refine Wsr ?_
 refine W1 (OpT.move (ii 2) hI1460.2.2.2.2.2.2.2.2.2 ?_)
 refine W1 (OpT.idx 1 ⟨b30, 0, none⟩ ⟨b30, 2, none⟩ 3 3 .i64 2 tu106 ts3 hI1460.2.2.2.2.2.2.2.1 hI1460.2.2.2.2.2.2.2.2.2 (by decide) (by decide) rfl ?_)
 refine W1 (OpT.loadS ⟨b30, 2, none⟩ (ii 0) ta3 rfl (st1434.cellB (i := 4) rfl rfl) ?_)
 refine W1 (OpT.assign (ii 2) rfl ?_)
 refine W1 (OpT.assign (ii 0) rfl ?_)
 refine Wnt ?_
 refine WC.seq ?_
 refine WC.draw 21 (fun jj vv => match jj with | 0 => vv = (ii 0) | 1 => vv = (.bool true) | 2 => vv = (.bool true) | 3 => vv = (ii (-1)) | 4 => vv = (.bool true) | 5 => vv = (.bool true) | 6 => vv = undef | 7 => vv = undef | 8 => vv = undef | 9 => vv = undef | 10 => vv = undef | 11 => vv = undef | 12 => vv = undef | 13 => vv = undef | 14 => vv = undef | 15 => vv = undef | 16 => vv = undef | 17 => vv = undef | 18 => vv = undef | 19 => vv = (.bool true) | 20 => vv = (.bool true) | _ => True) (fun _ _ => []) st1434 fmix (by kernel_rfl) ((obS (obS (obS (obS (obS (obS (obS (obS (obS (obS (obS (obS (obS (obS (obS (obS (obS (obS (obS (obS (obS ob0 ?_) ?_) ?_) ?_) ?_) ?_) ?_) ?_) ?_) ?_) ?_) ?_) ?_) ?_) ?_) ?_) ?_) ?_) ?_) ?_) ?_)) ?_
 ·intro vals ρ w1462 X hd h0 st1461
  have e1463 : ρ 19 = (ii 0) := (h0 19 rfl).trans rfl
  refine W1 (OpT.move (ii 0) e1463 ?_)
  refine WL.nil ?_
  exact oneQ.mk ⟨rfl, st1461⟩
 ·intro vals ρ w1465 X hd h0 st1464
  have e1466 : ρ 102 = (ii 0) := ((hd 0 rfl).2 102 rfl).trans (hd 0 rfl).1
  refine W1 (OpT.lit (b := (decide ((0 : Int) = (0 : Int)))) (c := true) (by decide) (fun hk => OpT.ieq .i64 (0) (0) e1466 rfl hk) ?_)
  refine WL.nil ?_
  exact oneQ.mk ⟨rfl, st1464⟩
 ·intro vals ρ w1468 X hd h0 st1467
  have e1469 : ρ 103 = (.bool true) := ((hd 1 rfl).2 103 rfl).trans (hd 1 rfl).1
  refine W1 (OpT.move (.bool true) e1469 ?_)
  refine WL.nil ?_
  exact oneQ.mk ⟨rfl, st1467⟩
 ·intro vals ρ w1471 X hd h0 st1470
  have e1472 : ρ 17 = (ii (-1)) := (h0 17 rfl).trans hI1460.2.2.2.2.1
  have e1473 : ρ 104 = (.bool true) := ((hd 2 rfl).2 104 rfl).trans (hd 2 rfl).1
  refine W2 (dj := 104) e1473 (OpT.move (ii (-1)) e1472 ?_)
  refine WL.nil ?_
  exact oneQ.mk ⟨rfl, st1470⟩
 ·intro vals ρ w1475 X hd h0 st1474
  have e1476 : ρ 104 = (.bool true) := ((hd 2 rfl).2 104 rfl).trans (hd 2 rfl).1
  have e1477 : ρ 105 = (ii (-1)) := ((hd 3 rfl).2 105 rfl).trans (hd 3 rfl).1
  refine W2 (dj := 104) e1476 (OpT.lit (b := (decide ((-1 : Int) < (0 : Int)))) (c := true) (by decide) (fun hk => OpT.ilt .i64 (-1) (0) e1477 rfl hk) ?_)
  refine WL.nil ?_
  exact oneQ.mk ⟨rfl, st1474⟩
 ·intro vals ρ w1479 X hd h0 st1478
  have e1480 : ρ 104 = (.bool true) := ((hd 2 rfl).2 104 rfl).trans (hd 2 rfl).1
  have e1481 : ρ 106 = (.bool true) := ((hd 4 rfl).2 106 rfl).trans (hd 4 rfl).1
  refine W2 (dj := 104) e1480 (OpT.move (.bool true) e1481 ?_)
  refine WL.nil ?_
  exact oneQ.mk ⟨rfl, st1478⟩
 ·intro vals ρ w1483 X hd h0 st1482
  have e1484 : ρ 5 = (sl og15 3 oc16) := (h0 5 rfl).trans hI1460.1
  have e1485 : ρ 107 = (.bool true) := ((hd 5 rfl).2 107 rfl).trans (hd 5 rfl).1
  refine WL.pass (dj := 107) (c := true) rfl rfl rfl e1485 rfl ?_
  refine WL.nil ?_
  exact oneQ.mk ⟨rfl, st1482⟩
 ·intro vals ρ w1487 X hd h0 st1486
  have e1488 : ρ 18 = (ii 2) := (h0 18 rfl).trans rfl
  have e1489 : ρ 107 = (.bool true) := ((hd 5 rfl).2 107 rfl).trans (hd 5 rfl).1
  refine WL.pass (dj := 107) (c := true) rfl rfl rfl e1489 rfl ?_
  refine WL.nil ?_
  exact oneQ.mk ⟨rfl, st1486⟩
 ·intro vals ρ w1491 X hd h0 st1490
  have e1492 : ρ 107 = (.bool true) := ((hd 5 rfl).2 107 rfl).trans (hd 5 rfl).1
  have e1493 : ρ 108 = undef := ((hd 6 rfl).2 108 rfl).trans (hd 6 rfl).1
  have e1494 : ρ 109 = undef := ((hd 7 rfl).2 109 rfl).trans (hd 7 rfl).1
  refine WL.pass (dj := 107) (c := true) rfl rfl rfl e1492 rfl ?_
  refine WL.nil ?_
  exact oneQ.mk ⟨rfl, st1490⟩
 ·intro vals ρ w1496 X hd h0 st1495
  have e1497 : ρ 107 = (.bool true) := ((hd 5 rfl).2 107 rfl).trans (hd 5 rfl).1
  have e1498 : ρ 110 = undef := ((hd 8 rfl).2 110 rfl).trans (hd 8 rfl).1
  refine WL.pass (dj := 107) (c := true) rfl rfl rfl e1497 rfl ?_
  refine WL.nil ?_
  exact oneQ.mk ⟨rfl, st1495⟩
 ·intro vals ρ w1500 X hd h0 st1499
  have e1501 : ρ 107 = (.bool true) := ((hd 5 rfl).2 107 rfl).trans (hd 5 rfl).1
  have e1502 : ρ 111 = undef := ((hd 9 rfl).2 111 rfl).trans (hd 9 rfl).1
  refine WL.pass (dj := 107) (c := true) rfl rfl rfl e1501 rfl ?_
  refine WL.nil ?_
  exact oneQ.mk ⟨rfl, st1499⟩
 ·intro vals ρ w1504 X hd h0 st1503
  have e1505 : ρ 107 = (.bool true) := ((hd 5 rfl).2 107 rfl).trans (hd 5 rfl).1
  have e1506 : ρ 112 = undef := ((hd 10 rfl).2 112 rfl).trans (hd 10 rfl).1
  refine WL.pass (dj := 107) (c := true) rfl rfl rfl e1505 rfl ?_
  refine WL.nil ?_
  exact oneQ.mk ⟨rfl, st1503⟩
 ·intro vals ρ w1508 X hd h0 st1507
  have e1509 : ρ 5 = (sl og15 3 oc16) := (h0 5 rfl).trans hI1460.1
  have e1510 : ρ 107 = (.bool true) := ((hd 5 rfl).2 107 rfl).trans (hd 5 rfl).1
  refine WL.pass (dj := 107) (c := true) rfl rfl rfl e1510 rfl ?_
  refine WL.nil ?_
  exact oneQ.mk ⟨rfl, st1507⟩
 ·intro vals ρ w1512 X hd h0 st1511
  have e1513 : ρ 17 = (ii (-1)) := (h0 17 rfl).trans hI1460.2.2.2.2.1
  have e1514 : ρ 107 = (.bool true) := ((hd 5 rfl).2 107 rfl).trans (hd 5 rfl).1
  refine WL.pass (dj := 107) (c := true) rfl rfl rfl e1514 rfl ?_
  refine WL.nil ?_
  exact oneQ.mk ⟨rfl, st1511⟩
 ·intro vals ρ w1516 X hd h0 st1515
  have e1517 : ρ 107 = (.bool true) := ((hd 5 rfl).2 107 rfl).trans (hd 5 rfl).1
  have e1518 : ρ 114 = undef := ((hd 12 rfl).2 114 rfl).trans (hd 12 rfl).1
  have e1519 : ρ 115 = undef := ((hd 13 rfl).2 115 rfl).trans (hd 13 rfl).1
  refine WL.pass (dj := 107) (c := true) rfl rfl rfl e1517 rfl ?_
  refine WL.nil ?_
  exact oneQ.mk ⟨rfl, st1515⟩
 ·intro vals ρ w1521 X hd h0 st1520
  have e1522 : ρ 107 = (.bool true) := ((hd 5 rfl).2 107 rfl).trans (hd 5 rfl).1
  have e1523 : ρ 116 = undef := ((hd 14 rfl).2 116 rfl).trans (hd 14 rfl).1
  refine WL.pass (dj := 107) (c := true) rfl rfl rfl e1522 rfl ?_
  refine WL.nil ?_
  exact oneQ.mk ⟨rfl, st1520⟩
 ·intro vals ρ w1525 X hd h0 st1524
  have e1526 : ρ 107 = (.bool true) := ((hd 5 rfl).2 107 rfl).trans (hd 5 rfl).1
  have e1527 : ρ 117 = undef := ((hd 15 rfl).2 117 rfl).trans (hd 15 rfl).1
  refine WL.pass (dj := 107) (c := true) rfl rfl rfl e1526 rfl ?_
  refine WL.nil ?_
  exact oneQ.mk ⟨rfl, st1524⟩
 ·intro vals ρ w1529 X hd h0 st1528
  have e1530 : ρ 107 = (.bool true) := ((hd 5 rfl).2 107 rfl).trans (hd 5 rfl).1
  have e1531 : ρ 118 = undef := ((hd 16 rfl).2 118 rfl).trans (hd 16 rfl).1
  refine WL.pass (dj := 107) (c := true) rfl rfl rfl e1530 rfl ?_
  refine WL.nil ?_
  exact oneQ.mk ⟨rfl, st1528⟩
 ·intro vals ρ w1533 X hd h0 st1532
  have e1534 : ρ 107 = (.bool true) := ((hd 5 rfl).2 107 rfl).trans (hd 5 rfl).1
  have e1535 : ρ 113 = undef := ((hd 11 rfl).2 113 rfl).trans (hd 11 rfl).1
  have e1536 : ρ 119 = undef := ((hd 17 rfl).2 119 rfl).trans (hd 17 rfl).1
  refine WL.pass (dj := 107) (c := true) rfl rfl rfl e1534 rfl ?_
  refine WL.nil ?_
  exact oneQ.mk ⟨rfl, st1532⟩
 ·intro vals ρ w1538 X hd h0 st1537
  have e1539 : ρ 104 = (.bool true) := ((hd 2 rfl).2 104 rfl).trans (hd 2 rfl).1
  have e1540 : ρ 107 = (.bool true) := ((hd 5 rfl).2 107 rfl).trans (hd 5 rfl).1
  have e1541 : ρ 120 = undef := ((hd 18 rfl).2 120 rfl).trans (hd 18 rfl).1
  refine W2 (dj := 104) e1539 (OpT.pickT (.bool true) e1540 rfl ?_)
  refine WL.nil ?_
  exact oneQ.mk ⟨rfl, st1537⟩
 ·intro vals ρ w1543 X hd h0 st1542
  have e1544 : ρ 104 = (.bool true) := ((hd 2 rfl).2 104 rfl).trans (hd 2 rfl).1
  have e1545 : ρ 121 = (.bool true) := ((hd 19 rfl).2 121 rfl).trans (hd 19 rfl).1
  refine W1 (OpT.pickT (.bool true) e1544 e1545 ?_)
  refine WL.nil ?_
  exact oneQ.mk ⟨rfl, st1542⟩
 intro vals ρ1548 w1547 hv h0 st1546
 replace st1546 : St Z w0 w1547 (Blk g1210 68 (cx [(sl p118 1 c119), (sl p221 1 c222)] ex1212) :: Blk g382 3 (cx [(ii 2)] ex384) :: Blk g229 3 (cx [(ii 1)] ex231) :: Blk b33 106 [(sl g229 1 cap230), (sl g382 1 cap383), vn] :: Blk b30 3 [(ii (-1)), (ii (-1)), (ii 0)] :: Blk og15 68 (cx [(sl p118 1 c119), (sl p221 1 c222), (sl p324 1 c325)] ox17) :: Blk p118 9 (cx [(vs 120)] e120) :: Blk p221 9 (cx [(vs 121)] e223) :: Blk p324 9 (cx [(vs 122)] e326) :: L) := st1546
 have e1549 : ρ1548 5 = (sl og15 3 oc16) := (h0 5 rfl).trans hI1460.1
 have e1550 : ρ1548 6 = (sl b30 3 3) := (h0 6 rfl).trans hI1460.2.1
 have e1551 : ρ1548 7 = (sl b33 3 3) := (h0 7 rfl).trans hI1460.2.2.1
 have e1552 : ρ1548 16 = (sl g1210 2 cap1211) := (h0 16 rfl).trans hI1460.2.2.2.1
 have e1553 : ρ1548 17 = (ii (-1)) := (h0 17 rfl).trans hI1460.2.2.2.2.1
 have e1554 : ρ1548 18 = (ii 2) := (h0 18 rfl).trans rfl
 have e1555 : ρ1548 92 = (ii 3) := (h0 92 rfl).trans hI1460.2.2.2.2.2.1
 have e1556 : ρ1548 93 = (ii 2) := (h0 93 rfl).trans hI1460.2.2.2.2.2.2.1
 have e1557 : ρ1548 95 = (sl b30 3 3) := (h0 95 rfl).trans hI1460.2.2.2.2.2.2.2.1
 have e1558 : ρ1548 96 = (ii 3) := (h0 96 rfl).trans hI1460.2.2.2.2.2.2.2.2.1
 have e1559 : ρ1548 97 = (ii 2) := (h0 97 rfl).trans hI1460.2.2.2.2.2.2.2.2.2
 have e1560 : ρ1548 122 = (.bool true) := ((hv 20 rfl).2 122 rfl).trans (hv 20 rfl).1
 clear hv h0
 refine Wnt ?_
 refine WC.condT e1560 ?_
 refine WC.region ?_
 refine W1 (OpT.move (ii 2) e1554 ?_)
 refine W1 (OpT.assign (ii 2) rfl ?_)
 refine WL.nil ?_
 refine blkQ_n ?_
 refine thenQ_n ?_
 refine WC.region ?_
 refine W1 (OpT.iadd .i64 (2) (1) (3) e1559 rfl (by decide) ?_)
 refine W1 (OpT.move (ii 3) rfl ?_)
 refine WL.nil ?_
 refine unrQ_n ?_
 refine UL.cut (fun r => r 5 = (sl og15 3 oc16) ∧ r 6 = (sl b30 3 3) ∧ r 7 = (sl b33 3 3) ∧ r 16 = (sl g1210 2 cap1211) ∧ r 17 = (ii 2) ∧ r 92 = (ii 3) ∧ r 93 = (ii 2) ∧ r 95 = (sl b30 3 3) ∧ r 96 = (ii 3) ∧ r 97 = (ii 3)) ⟨e1549, e1550, e1551, e1552, rfl, e1555, e1556, e1557, e1558, rfl⟩ ?_
 intro ρ1561 hI1572
 refine UL.go ?_
 refine Wsr ?_
 refine W1 (OpT.lit (b := (decide ((3 : Int) < (3 : Int)))) (c := false) (by decide) (fun hk => OpT.ilt .i64 (3) (3) hI1572.2.2.2.2.2.2.2.2.2 hI1572.2.2.2.2.2.2.2.2.1 hk) ?_)
 refine Wnt ?_
 refine WC.seq ?_
 refine WC.condF rfl ?_
 refine WC.exit ?_
 refine thenQ_x ?_
 refine unrQ_x ?_
 refine blkQ_hit ?_
 refine thenQ_n ?_
 refine Wsr ?_
 refine W1 (OpT.move (sl b30 3 3) hI1572.2.1 ?_)
 refine W1 (OpT.move (ii 2) hI1572.2.2.2.2.1 ?_)
 refine W1 (OpT.idx 1 ⟨b30, 0, none⟩ ⟨b30, 2, none⟩ 3 3 .i64 2 tu106 ts3 rfl rfl (by decide) (by decide) rfl ?_)
 refine WL.stepN (OpT.storeS st1546 4 (ii (-1)) rfl ts3 rfl rfl rfl rfl rfl (fun w1573 st1574 => ?_))
 refine Wnt ?_
 refine WC.seq ?_
 refine Wsr ?_
 refine W1 (OpT.move (sl b33 3 3) hI1572.2.2.1 ?_)
 refine W1 (OpT.move (ii 2) hI1572.2.2.2.2.1 ?_)
 refine W1 (OpT.idx 1 ⟨b33, 0, none⟩ ⟨b33, 2, none⟩ 3 3 .i64 2 tu107 ts106 rfl rfl (by decide) (by decide) rfl ?_)
 refine W1 (OpT.loadS ⟨b33, 2, none⟩ vn ta106 rfl (st1574.cellB (i := 3) rfl rfl) ?_)
 refine W1 (OpT.litV (v := (ni 0)) (v' := (ii 0)) rfl (fun hk => OpT.lenS none 0 0 rfl tu106 rfl hk) ?_)
 refine W1 (OpT.move (ii 0) rfl ?_)
 refine Wnt ?_
 refine WC.block ?_
 refine WC.unroll 12 ?_
 refine UL.cut (fun r => r 5 = (sl og15 3 oc16) ∧ r 6 = (sl b30 3 3) ∧ r 7 = (sl b33 3 3) ∧ r 16 = (sl g1210 2 cap1211) ∧ r 17 = (ii 2) ∧ r 92 = (ii 3) ∧ r 93 = (ii 2) ∧ r 131 = vn ∧ r 132 = (ii 0) ∧ r 133 = (ii 0)) ⟨hI1572.1, hI1572.2.1, hI1572.2.2.1, hI1572.2.2.2.1, hI1572.2.2.2.2.1, hI1572.2.2.2.2.2.1, hI1572.2.2.2.2.2.2.1, rfl, rfl, rfl⟩ ?_
 intro ρ1575 hI1586
 refine UL.go ?_
 refine Wsr ?_
 refine W1 (OpT.lit (b := (decide ((0 : Int) < (0 : Int)))) (c := false) (by decide) (fun hk => OpT.ilt .i64 (0) (0) hI1586.2.2.2.2.2.2.2.2.2 hI1586.2.2.2.2.2.2.2.2.1 hk) ?_)
 refine Wnt ?_
 refine WC.seq ?_
 refine WC.condF rfl ?_
 refine WC.exit ?_
 refine thenQ_x ?_
 refine unrQ_x ?_
 refine blkQ_hit ?_
 refine thenQ_n ?_
 refine WC.region ?_
 refine W1 (OpT.move (sl g1210 2 cap1211) hI1586.2.2.2.1 ?_)
 refine W1 (OpT.move (sl og15 3 oc16) hI1586.1 ?_)
 refine W1 (OpT.move (ii 2) hI1586.2.2.2.2.1 ?_)
 refine W1 (OpT.idx 1 ⟨og15, 0, none⟩ ⟨og15, 2, none⟩ 3 oc16 .i64 2 tu74 ts68 rfl rfl (by decide) (by decide) rfl ?_)
 refine W1 (OpT.loadS ⟨og15, 2, none⟩ (sl p324 1 c325) ta68 rfl (st1574.cellB (i := 5) rfl rfl) ?_)
 refine W1 (OpT.buildSlice st1574 [(0, (sl p324 1 c325))] [(sl p324 1 c325)] tu74 ts68 tz68 (mp1 rfl) (by kernel_rfl) (by decide) (fun b1587 w1588 st1589 => ?_))
 have st1590 := St.shutRow (sz := 1) (n := 2) (cap := cap1211) (cs := [(sl p118 1 c119), (sl p221 1 c222)]) ((St.selD 10 [1, 0, 2, 3, 4, 5, 6, 7, 8, 9] rfl rfl (by decide) st1589) : St Z w0 w1588 (Blk g1210 68 (cx [(sl p118 1 c119), (sl p221 1 c222)] ex1212) :: Blk b1587 68 [(sl p324 1 c325)] :: Blk g382 3 (cx [(ii 2)] ex384) :: Blk g229 3 (cx [(ii 1)] ex231) :: Blk b33 106 [(sl g229 1 cap230), (sl g382 1 cap383), vn] :: Blk b30 3 [(ii (-1)), (ii (-1)), (ii (-1))] :: Blk og15 68 (cx [(sl p118 1 c119), (sl p221 1 c222), (sl p324 1 c325)] ox17) :: Blk p118 9 (cx [(vs 120)] e120) :: Blk p221 9 (cx [(vs 121)] e223) :: Blk p324 9 (cx [(vs 122)] e326) :: L)) (by simp; omega) (by omega) hm1215 rfl
 have st1591 : St Z w0 w1588 (Blk b1587 68 [(sl p324 1 c325)] :: Row 68 1 (sl g1210 2 cap1211) 2 [(sl p118 1 c119), (sl p221 1 c222)] :: Blk g382 3 (cx [(ii 2)] ex384) :: Blk g229 3 (cx [(ii 1)] ex231) :: Blk b33 106 [(sl g229 1 cap230), (sl g382 1 cap383), vn] :: Blk b30 3 [(ii (-1)), (ii (-1)), (ii (-1))] :: Blk og15 68 (cx [(sl p118 1 c119), (sl p221 1 c222), (sl p324 1 c325)] ox17) :: Blk p118 9 (cx [(vs 120)] e120) :: Blk p221 9 (cx [(vs 121)] e223) :: Blk p324 9 (cx [(vs 122)] e326) :: L) := St.selT [Row 68 1 (sl g1210 2 cap1211) 2 [(sl p118 1 c119), (sl p221 1 c222)], Blk b1587 68 [(sl p324 1 c325)], Blk g382 3 (cx [(ii 2)] ex384), Blk g229 3 (cx [(ii 1)] ex231), Blk b33 106 [(sl g229 1 cap230), (sl g382 1 cap383), vn], Blk b30 3 [(ii (-1)), (ii (-1)), (ii (-1))], Blk og15 68 (cx [(sl p118 1 c119), (sl p221 1 c222), (sl p324 1 c325)] ox17), Blk p118 9 (cx [(vs 120)] e120), Blk p221 9 (cx [(vs 121)] e223), Blk p324 9 (cx [(vs 122)] e326)] [1, 0, 2, 3, 4, 5, 6, 7, 8, 9] rfl (by decide) st1590
 refine W1 (OpT.append st1591 1 tu74 ts68 tz68 rfl tb68 (by decide) rfl rfl rfl rfl (by decide) (by decide) (fun v1592 w1593 st1594 hn1595 => ?_))
 obtain ⟨g1596, cap1597, ex1598, rfl, hE1599, hc1600, hm1601, st1602⟩ := St.openRow (n := 3) (cs := [(sl p118 1 c119), (sl p221 1 c222), (sl p324 1 c325)]) (by decide) st1594
 replace st1602 : St Z w0 w1593 (Blk g1596 68 (cx [(sl p118 1 c119), (sl p221 1 c222), (sl p324 1 c325)] ex1598) :: Blk g382 3 (cx [(ii 2)] ex384) :: Blk g229 3 (cx [(ii 1)] ex231) :: Blk b33 106 [(sl g229 1 cap230), (sl g382 1 cap383), vn] :: Blk b30 3 [(ii (-1)), (ii (-1)), (ii (-1))] :: Blk og15 68 (cx [(sl p118 1 c119), (sl p221 1 c222), (sl p324 1 c325)] ox17) :: Blk p118 9 (cx [(vs 120)] e120) :: Blk p221 9 (cx [(vs 121)] e223) :: Blk p324 9 (cx [(vs 122)] e326) :: L) := st1602
 refine W1 (OpT.assign (sl g1596 3 cap1597) rfl ?_)
 refine WL.nil ?_
 refine blkQ_n ?_
 refine thenQ_n ?_
 refine WC.region ?_
 refine W1 (OpT.iadd .i64 (2) (1) (3) hI1586.2.2.2.2.2.2.1 rfl (by decide) ?_)
 refine W1 (OpT.move (ii 3) rfl ?_)
 refine WL.nil ?_
 refine unrQ_n ?_
 refine UL.cut (fun r => r 5 = (sl og15 3 oc16) ∧ r 6 = (sl b30 3 3) ∧ r 7 = (sl b33 3 3) ∧ r 16 = (sl g1596 3 cap1597) ∧ r 92 = (ii 3) ∧ r 93 = (ii 3)) ⟨hI1586.1, hI1586.2.1, hI1586.2.2.1, rfl, hI1586.2.2.2.2.2.1, rfl⟩ ?_
 intro ρ1603 hI1610
 refine UL.go ?_
 refine Wsr ?_
 refine W1 (OpT.lit (b := (decide ((3 : Int) < (3 : Int)))) (c := false) (by decide) (fun hk => OpT.ilt .i64 (3) (3) hI1610.2.2.2.2.2 hI1610.2.2.2.2.1 hk) ?_)
 refine Wnt ?_
 refine WC.seq ?_
 refine WC.condF rfl ?_
 refine WC.exit ?_
 refine thenQ_x ?_
 refine unrQ_x ?_
 refine blkQ_hit ?_
 refine thenQ_n ?_
 refine Wsr ?_
 refine W1 (OpT.move (sl g1596 3 cap1597) hI1610.2.2.2.1 ?_)
 refine W1 (OpT.assign (sl g1596 3 cap1597) rfl ?_)
 refine Wnt ?_
 refine WC.ret <| retQ.one (sl g1596 3 cap1597) rfl ?_
 exact ⟨_, rfl, g1596, cap1597, ex1598, p118, c119, e120, p221, c222, e223, p324, c325, e326, rfl, (St.selD 9 [0, 6, 7, 8] rfl rfl (by decide) st1602)⟩

end Go.Ped
