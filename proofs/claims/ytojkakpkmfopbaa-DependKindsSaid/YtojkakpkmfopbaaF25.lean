/- The parts of the law's fixed program. -/
import Derived.Test.YtojkakpkmfopbaaF21
import Derived.Test.YtojkakpkmfopbaaF22
import Derived.Test.YtojkakpkmfopbaaF24
set_option linter.unusedVariables false
set_option maxRecDepth 20000
namespace Go.Ped
open Go Go.Eng Go.RowKit Go.Proofs

theorem tz74 : zeroB Try.prog 74 = some (.slice none 0 0) := by kernel_rfl
theorem tz124 : zeroB Try.prog 124 = some .nilFunc := by kernel_rfl
theorem ts124 : sizeB Try.prog 124 = some 1 := by kernel_rfl
theorem cal37 : CallOk Try.prog 37 := ⟨⟨Try.f37, Try.func37, rfl, by decide⟩⟩
theorem ta124 : aggB Try.prog 124 = some false := by kernel_rfl
theorem cal49 : CallOk Try.prog 49 := ⟨⟨Try.f49, Try.func49, rfl, by decide⟩⟩
theorem cal50 : CallOk Try.prog 50 := ⟨⟨Try.f50, Try.func50, rfl, by decide⟩⟩
theorem cal52 : CallOk Try.prog 52 := ⟨⟨Try.f52, Try.func52, rfl, by decide⟩⟩
theorem ta74 : aggB Try.prog 74 = some false := by kernel_rfl
theorem tu74 : Try.prog.underlying 74 = some (.slice 68) := by kernel_rfl
theorem tb68 : (Try.prog.info? 68).map (·.bytes) = some 24 := by kernel_rfl
theorem ts74 : sizeB Try.prog 74 = some 1 := by kernel_rfl
theorem keys_sorted : ([[122], [121], [120]] : List (List UInt8)).mergeSort leB = [[120], [121], [122]] := by
  rw [mergeSort_of_perm (show ([[122], [121], [120]] : List (List UInt8)).Perm [[120], [121], [122]] from by decide)]
  exact List.mergeSort_of_pairwise (by decide)
set_option maxHeartbeats 8000000 in
theorem parts_other {Z : Nat → Prop} {w0 w : World} {L : List Res} {mb g1 d1 g2 d2 : Nat} {x1 x2 : List Value} (st : St Z w0 w (Mp Value.string (fun v : Value => v) mb ([((⟨#[122]⟩ : ByteArray), (sl g1 2 d1)), ((⟨#[121]⟩ : ByteArray), (sl g2 1 d2)), ((⟨#[120]⟩ : ByteArray), vn)] : List (ByteArray × Value)) :: Blk g1 9 (cx [(vs 121), (vs 122)] x1) :: Blk g2 9 (cx [(vs 120)] x2) :: L)) : Calls Try.prog 36 #[(.map (some mb))] w (Ret fun r w' => ∃ ib og oc ox p1 c1 e1 p2 c2 e2 p3 c3 e3, r = .tuple #[.map (some ib), (sl og 3 oc)] ∧ St Z w0 w' (Mp Value.string (Value.int .i64) ib ([((⟨#[120]⟩ : ByteArray), 0), ((⟨#[121]⟩ : ByteArray), 1), ((⟨#[122]⟩ : ByteArray), 2)] : List (ByteArray × Int)) :: Blk og 68 (cx [(sl p1 1 c1), (sl p2 1 c2), (sl p3 1 c3)] ox) :: Blk p1 9 (cx [(vs 120)] e1) :: Blk p2 9 (cx [(vs 121)] e2) :: Blk p3 9 (cx [(vs 122)] e3) :: Mp Value.string (fun v : Value => v) mb ([((⟨#[122]⟩ : ByteArray), (sl g1 2 d1)), ((⟨#[121]⟩ : ByteArray), (sl g2 1 d2)), ((⟨#[120]⟩ : ByteArray), vn)] : List (ByteArray × Value)) :: Blk g1 9 (cx [(vs 121), (vs 122)] x1) :: Blk g2 9 (cx [(vs 120)] x2) :: L)) := by
 refine calls_of_WC (m := 37) (rs := [.tmp 2, .tmp 3]) Try.func36 rfl rfl rfl rfl ?_
 refine Wsr ?_
 refine W1 (OpT.box st (.map (some mb)) [(.map (some mb))] rfl rfl (fun b1 w2 st3 => ?_))
 refine W1 (OpT.assign (.map none) rfl ?_)
 refine W1 (OpT.assign vn rfl ?_)
 refine Wns ?_
 refine W1 (OpT.makeMap Value.string (Value.int .i64) st3 (fun b4 w5 st6 => ?_))
 refine W1 (OpT.makeMap Value.string (Value.int .i64) st6 (fun b7 w8 st9 => ?_))
 refine W1 (OpT.alloc st9 (.map none) [(.map none)] tz81 rfl (fun b10 w11 st12 => ?_))
 refine W1 (OpT.alloc st12 (.map none) [(.map none)] tz81 rfl (fun b13 w14 st15 => ?_))
 refine WL.stepN (OpT.storeS st15 1 (.map (some b4)) rfl ts81 rfl rfl rfl rfl rfl (fun w16 st17 => ?_))
 refine WL.stepN (OpT.storeS st17 0 (.map (some b7)) rfl ts81 rfl rfl rfl rfl rfl (fun w18 st19 => ?_))
 refine Wns ?_
 refine W1 (OpT.alloc st19 vn [vn] tz68 rfl (fun b20 w21 st22 => ?_))
 refine Wns ?_
 refine W1 (OpT.alloc st22 vn [vn] tz74 rfl (fun b23 w24 st25 => ?_))
 refine Wns ?_
 refine W1 (OpT.alloc st25 .nilFunc [.nilFunc] tz124 rfl (fun b26 w27 st28 => ?_))
 refine Wns ?_
 refine W1 (OpT.makeFunc [] [(pt b10 0), (pt b20 0), (pt b1 0), (pt b13 0), (pt b26 0), (pt b23 0)] mk0 (mk6 rfl rfl rfl rfl rfl rfl) ?_)
 refine WL.stepN (OpT.storeS st28 0 (.func (.func 49) #[] #[(pt b10 0), (pt b20 0), (pt b1 0), (pt b13 0), (pt b26 0), (pt b23 0)]) rfl ts124 rfl rfl rfl rfl rfl (fun w29 st30 => ?_))
 refine Wnt ?_
 refine WC.seq ?_
 refine Wsr ?_
 refine W1 (OpT.loadS ⟨b1, 0, none⟩ (.map (some mb)) ta99 rfl (st30.cellB (i := 7) rfl rfl) ?_)
 refine W1 (OpT.callS cal37 [] [] [(.map (some mb))] rfl (ca1 rfl) (names_spec (m := ([((⟨#[122]⟩ : ByteArray), (sl g1 2 d1)), ((⟨#[121]⟩ : ByteArray), (sl g2 1 d2)), ((⟨#[120]⟩ : ByteArray), vn)] : List (ByteArray × Value))) (St.selD 11 [8, 0, 1, 2, 3, 4, 5, 6, 7, 9, 10] rfl rfl (by decide) st30) (fun p hp => (show ∀ k ∈ ([(⟨#[122]⟩ : ByteArray), (⟨#[121]⟩ : ByteArray), (⟨#[120]⟩ : ByteArray)] : List ByteArray), k.size ≤ maxLen from by decide) p.1 (List.mem_map_of_mem hp)) (show ([(⟨#[122]⟩ : ByteArray), (⟨#[121]⟩ : ByteArray), (⟨#[120]⟩ : ByteArray)] : List ByteArray).Nodup from by decide) (show 3 < 1048576 by decide)) ?_)
 rintro v34 w35 ⟨o31, c32, st36⟩
 have e33 : (keyL ([((⟨#[122]⟩ : ByteArray), (sl g1 2 d1)), ((⟨#[121]⟩ : ByteArray), (sl g2 1 d2)), ((⟨#[120]⟩ : ByteArray), vn)] : List (ByteArray × Value))).mergeSort leB = [[120], [121], [122]] := keys_sorted
 rw [e33] at st36
 replace st36 : St Z w0 w35 (Row 9 1 v34 3 [(vs 120), (vs 121), (vs 122)] :: Mp Value.string (fun v : Value => v) mb ([((⟨#[122]⟩ : ByteArray), (sl g1 2 d1)), ((⟨#[121]⟩ : ByteArray), (sl g2 1 d2)), ((⟨#[120]⟩ : ByteArray), vn)] : List (ByteArray × Value)) :: Blk b26 124 [(.func (.func 49) #[] #[(pt b10 0), (pt b20 0), (pt b1 0), (pt b13 0), (pt b26 0), (pt b23 0)])] :: Blk b23 74 [vn] :: Blk b20 68 [vn] :: Blk b13 81 [(.map (some b7))] :: Blk b10 81 [(.map (some b4))] :: Mp Value.string (Value.int .i64) b7 ([] : List (ByteArray × Int)) :: Mp Value.string (Value.int .i64) b4 ([] : List (ByteArray × Int)) :: Blk b1 99 [(.map (some mb))] :: Blk g1 9 (cx [(vs 121), (vs 122)] x1) :: Blk g2 9 (cx [(vs 120)] x2) :: L) := st36
 obtain ⟨g37, cap38, ex39, rfl, hE40, hc41, hm42, st43⟩ := St.openRow (n := 3) (cs := [(vs 120), (vs 121), (vs 122)]) (by decide) st36
 replace st43 : St Z w0 w35 (Blk g37 9 (cx [(vs 120), (vs 121), (vs 122)] ex39) :: Mp Value.string (fun v : Value => v) mb ([((⟨#[122]⟩ : ByteArray), (sl g1 2 d1)), ((⟨#[121]⟩ : ByteArray), (sl g2 1 d2)), ((⟨#[120]⟩ : ByteArray), vn)] : List (ByteArray × Value)) :: Blk b26 124 [(.func (.func 49) #[] #[(pt b10 0), (pt b20 0), (pt b1 0), (pt b13 0), (pt b26 0), (pt b23 0)])] :: Blk b23 74 [vn] :: Blk b20 68 [vn] :: Blk b13 81 [(.map (some b7))] :: Blk b10 81 [(.map (some b4))] :: Mp Value.string (Value.int .i64) b7 ([] : List (ByteArray × Int)) :: Mp Value.string (Value.int .i64) b4 ([] : List (ByteArray × Int)) :: Blk b1 99 [(.map (some mb))] :: Blk g1 9 (cx [(vs 121), (vs 122)] x1) :: Blk g2 9 (cx [(vs 120)] x2) :: L) := st43
 refine W1 (OpT.litV (v := (ni 3)) (v' := (ii 3)) rfl (fun hk => OpT.lenS _ 3 cap38 rfl tu68 rfl hk) ?_)
 refine W1 (OpT.move (ii 0) rfl ?_)
 refine Wnt ?_
 refine WC.block ?_
 refine WC.unroll 12 ?_
 refine UL.cut (fun r => r 5 = (pt b13 0) ∧ r 7 = (pt b23 0) ∧ r 8 = (pt b26 0) ∧ r 17 = (sl g37 3 cap38) ∧ r 18 = (ii 3) ∧ r 19 = (ii 0)) ⟨rfl, rfl, rfl, rfl, rfl, rfl⟩ ?_
 intro ρ44 hI51
 refine UL.go ?_
 refine Wsr ?_
 refine W1 (OpT.lit (b := (decide ((0 : Int) < (3 : Int)))) (c := true) (by decide) (fun hk => OpT.ilt .i64 (0) (3) hI51.2.2.2.2.2 hI51.2.2.2.2.1 hk) ?_)
 refine Wnt ?_
 refine WC.seq ?_
 refine WC.condT rfl ?_
 refine WC.skip ?_
 refine thenQ_n ?_
 refine WC.seq ?_
 refine WC.block ?_
 refine Wsr ?_
 refine W1 (OpT.idx 1 ⟨g37, 0, none⟩ ⟨g37, 0, none⟩ 3 cap38 .i64 0 tu68 ts9 hI51.2.2.2.1 hI51.2.2.2.2.2 (by decide) (by decide) rfl ?_)
 refine W1 (OpT.loadS ⟨g37, 0, none⟩ (vs 120) ta9 rfl (st43.cellB (i := 0) rfl rfl) ?_)
 refine W1 (OpT.assign (vs 120) rfl ?_)
 refine Wns ?_
 refine W1 (OpT.loadS ⟨b13, 0, none⟩ (.map (some b7)) ta81 hI51.1 (st43.cellB (i := 5) rfl rfl) ?_)
 refine W1 (OpT.move (vs 120) rfl ?_)
 refine W1 (OpT.litV (v := (.tuple #[(.int .i64 (((mget ([] : List (ByteArray × Int)) (⟨#[120]⟩ : ByteArray)).getD 0))), (.bool ((mget ([] : List (ByteArray × Int)) (⟨#[120]⟩ : ByteArray)).isSome))])) (v' := (.tuple #[(ii 0), (.bool false)])) (by simp [mget_cons, mget_nil]) (fun hk => OpT.lookupOkI st43 7 rfl ko9 tu81 tz3 ((⟨#[120]⟩ : ByteArray)) rfl rfl hk) ?_)
 refine W1 (OpT.move (.tuple #[(ii 0), (.bool false)]) rfl ?_)
 refine W1 (OpT.extract [(ii 0), (.bool false)] (ii 0) rfl rfl ?_)
 refine W1 (OpT.extract [(ii 0), (.bool false)] (.bool false) rfl rfl ?_)
 refine W1 (OpT.assign (ii 0) rfl ?_)
 refine W1 (OpT.assign (.bool false) rfl ?_)
 refine Wns ?_
 refine W1 (OpT.move (.bool false) rfl ?_)
 refine W1 (OpT.not false rfl ?_)
 refine Wnt ?_
 refine WC.condT rfl ?_
 refine WC.region ?_
 refine W1 (OpT.loadS ⟨b26, 0, none⟩ (.func (.func 49) #[] #[(pt b10 0), (pt b20 0), (pt b1 0), (pt b13 0), (pt b26 0), (pt b23 0)]) ta124 hI51.2.2.1 (st43.cellB (i := 2) rfl rfl) ?_)
 refine W1 (OpT.move (vs 120) rfl ?_)
 refine W1 (OpT.callC cal49 [] [(pt b10 0), (pt b20 0), (pt b1 0), (pt b13 0), (pt b26 0), (pt b23 0)] [(vs 120), (pt b10 0), (pt b20 0), (pt b1 0), (pt b13 0), (pt b26 0), (pt b23 0)] rfl (ca1 rfl) ?_)
 refine calls_of_WC (m := 97) (rs := [.tmp 8]) Try.func49 rfl rfl rfl rfl ?_
 refine Wsr ?_
 refine W1 (OpT.assign (ii 0) rfl ?_)
 refine Wns ?_
 refine W1 (OpT.loadS ⟨b10, 0, none⟩ (.map (some b4)) ta81 rfl (st43.cellB (i := 6) rfl rfl) ?_)
 refine W1 (OpT.litV (v := (ni 0)) (v' := (ii 0)) rfl (fun hk => OpT.lenMap st43 8 rfl rfl tu81 rfl hk) ?_)
 refine W1 (OpT.iadd .i64 (0) (1) (1) rfl rfl (by decide) ?_)
 refine W1 (OpT.assign (ii 1) rfl ?_)
 refine Wns ?_
 refine W1 (OpT.loadS ⟨b10, 0, none⟩ (.map (some b4)) ta81 rfl (st43.cellB (i := 6) rfl rfl) ?_)
 refine W1 (OpT.move (vs 120) rfl ?_)
 refine W1 (OpT.move (ii 1) rfl ?_)
 have e54 : mset ([] : List (ByteArray × Int)) (⟨#[120]⟩ : ByteArray) 1 = ([((⟨#[120]⟩ : ByteArray), 1)] : List (ByteArray × Int)) := by simp [mset_cons, mset_nil]
 refine WL.stepN (OpT.mapSet st43 8 rfl ko9 tu81 ((⟨#[120]⟩ : ByteArray)) (1) rfl rfl rfl (fun w52 st53 => ?_))
 rw [e54] at st53
 refine Wns ?_
 refine W1 (OpT.move (ii 1) rfl ?_)
 refine W1 (OpT.assign (ii 1) rfl ?_)
 refine Wns ?_
 refine W1 (OpT.loadS ⟨b20, 0, none⟩ vn ta68 rfl (st53.cellB (i := 4) rfl rfl) ?_)
 refine W1 (OpT.move (vs 120) rfl ?_)
 refine W1 (OpT.buildSlice st53 [(0, (vs 120))] [(vs 120)] tu68 ts9 tz9 (mp1 rfl) (by kernel_rfl) (by decide) (fun b55 w56 st57 => ?_))
 have st58 := St.rowNil 9 1 (st57 : St Z w0 w56 (Blk b55 9 [(vs 120)] :: Blk g37 9 (cx [(vs 120), (vs 121), (vs 122)] ex39) :: Mp Value.string (fun v : Value => v) mb ([((⟨#[122]⟩ : ByteArray), (sl g1 2 d1)), ((⟨#[121]⟩ : ByteArray), (sl g2 1 d2)), ((⟨#[120]⟩ : ByteArray), vn)] : List (ByteArray × Value)) :: Blk b26 124 [(.func (.func 49) #[] #[(pt b10 0), (pt b20 0), (pt b1 0), (pt b13 0), (pt b26 0), (pt b23 0)])] :: Blk b23 74 [vn] :: Blk b20 68 [vn] :: Blk b13 81 [(.map (some b7))] :: Blk b10 81 [(.map (some b4))] :: Mp Value.string (Value.int .i64) b7 ([] : List (ByteArray × Int)) :: Mp Value.string (Value.int .i64) b4 ([((⟨#[120]⟩ : ByteArray), 1)] : List (ByteArray × Int)) :: Blk b1 99 [(.map (some mb))] :: Blk g1 9 (cx [(vs 121), (vs 122)] x1) :: Blk g2 9 (cx [(vs 120)] x2) :: L))
 have st59 : St Z w0 w56 (Blk b55 9 [(vs 120)] :: Row 9 1 vn 0 [] :: Blk g37 9 (cx [(vs 120), (vs 121), (vs 122)] ex39) :: Mp Value.string (fun v : Value => v) mb ([((⟨#[122]⟩ : ByteArray), (sl g1 2 d1)), ((⟨#[121]⟩ : ByteArray), (sl g2 1 d2)), ((⟨#[120]⟩ : ByteArray), vn)] : List (ByteArray × Value)) :: Blk b26 124 [(.func (.func 49) #[] #[(pt b10 0), (pt b20 0), (pt b1 0), (pt b13 0), (pt b26 0), (pt b23 0)])] :: Blk b23 74 [vn] :: Blk b20 68 [vn] :: Blk b13 81 [(.map (some b7))] :: Blk b10 81 [(.map (some b4))] :: Mp Value.string (Value.int .i64) b7 ([] : List (ByteArray × Int)) :: Mp Value.string (Value.int .i64) b4 ([((⟨#[120]⟩ : ByteArray), 1)] : List (ByteArray × Int)) :: Blk b1 99 [(.map (some mb))] :: Blk g1 9 (cx [(vs 121), (vs 122)] x1) :: Blk g2 9 (cx [(vs 120)] x2) :: L) := St.selT [Row 9 1 vn 0 [], Blk b55 9 [(vs 120)], Blk g37 9 (cx [(vs 120), (vs 121), (vs 122)] ex39), Mp Value.string (fun v : Value => v) mb ([((⟨#[122]⟩ : ByteArray), (sl g1 2 d1)), ((⟨#[121]⟩ : ByteArray), (sl g2 1 d2)), ((⟨#[120]⟩ : ByteArray), vn)] : List (ByteArray × Value)), Blk b26 124 [(.func (.func 49) #[] #[(pt b10 0), (pt b20 0), (pt b1 0), (pt b13 0), (pt b26 0), (pt b23 0)])], Blk b23 74 [vn], Blk b20 68 [vn], Blk b13 81 [(.map (some b7))], Blk b10 81 [(.map (some b4))], Mp Value.string (Value.int .i64) b7 ([] : List (ByteArray × Int)), Mp Value.string (Value.int .i64) b4 ([((⟨#[120]⟩ : ByteArray), 1)] : List (ByteArray × Int)), Blk b1 99 [(.map (some mb))], Blk g1 9 (cx [(vs 121), (vs 122)] x1), Blk g2 9 (cx [(vs 120)] x2)] [1, 0, 2, 3, 4, 5, 6, 7, 8, 9, 10, 11, 12, 13] rfl (by decide) st58
 refine W1 (OpT.append st59 1 tu68 ts9 tz9 rfl tb9 (by decide) rfl rfl rfl rfl (by decide) (by decide) (fun v60 w61 st62 hn63 => ?_))
 obtain ⟨g64, cap65, ex66, rfl, hE67, hc68, hm69, st70⟩ := St.openRow (n := 1) (cs := [(vs 120)]) (by decide) st62
 replace st70 : St Z w0 w61 (Blk g64 9 (cx [(vs 120)] ex66) :: Blk g37 9 (cx [(vs 120), (vs 121), (vs 122)] ex39) :: Mp Value.string (fun v : Value => v) mb ([((⟨#[122]⟩ : ByteArray), (sl g1 2 d1)), ((⟨#[121]⟩ : ByteArray), (sl g2 1 d2)), ((⟨#[120]⟩ : ByteArray), vn)] : List (ByteArray × Value)) :: Blk b26 124 [(.func (.func 49) #[] #[(pt b10 0), (pt b20 0), (pt b1 0), (pt b13 0), (pt b26 0), (pt b23 0)])] :: Blk b23 74 [vn] :: Blk b20 68 [vn] :: Blk b13 81 [(.map (some b7))] :: Blk b10 81 [(.map (some b4))] :: Mp Value.string (Value.int .i64) b7 ([] : List (ByteArray × Int)) :: Mp Value.string (Value.int .i64) b4 ([((⟨#[120]⟩ : ByteArray), 1)] : List (ByteArray × Int)) :: Blk b1 99 [(.map (some mb))] :: Blk g1 9 (cx [(vs 121), (vs 122)] x1) :: Blk g2 9 (cx [(vs 120)] x2) :: L) := st70
 refine WL.stepN (OpT.storeS st70 5 (sl g64 1 cap65) rfl ts68 rfl rfl rfl rfl rfl (fun w71 st72 => ?_))
 refine Wnt ?_
 refine WC.seq ?_
 refine Wsr ?_
 refine W1 (OpT.loadS ⟨b1, 0, none⟩ (.map (some mb)) ta99 rfl (st72.cellB (i := 10) rfl rfl) ?_)
 refine W1 (OpT.move (vs 120) rfl ?_)
 refine W1 (OpT.litV (v := ((mget ([((⟨#[122]⟩ : ByteArray), (sl g1 2 d1)), ((⟨#[121]⟩ : ByteArray), (sl g2 1 d2)), ((⟨#[120]⟩ : ByteArray), vn)] : List (ByteArray × Value)) (⟨#[120]⟩ : ByteArray)).getD vn)) (v' := vn) (by simp [mget_cons, mget_nil]) (fun hk => OpT.lookupV st72 2 rfl ko9 tu99 tz68 ((⟨#[120]⟩ : ByteArray)) rfl rfl hk) ?_)
 refine W1 (OpT.litV (v := (ni 0)) (v' := (ii 0)) rfl (fun hk => OpT.lenS none 0 0 rfl tu68 rfl hk) ?_)
 refine W1 (OpT.move (ii 0) rfl ?_)
 refine Wnt ?_
 refine WC.block ?_
 refine WC.unroll 12 ?_
 refine UL.cut (fun r => r 0 = (vs 120) ∧ r 1 = (pt b10 0) ∧ r 2 = (pt b20 0) ∧ r 4 = (pt b13 0) ∧ r 5 = (pt b26 0) ∧ r 6 = (pt b23 0) ∧ r 9 = (ii 1) ∧ r 10 = (ii 1) ∧ r 34 = vn ∧ r 35 = (ii 0) ∧ r 36 = (ii 0)) ⟨rfl, rfl, rfl, rfl, rfl, rfl, rfl, rfl, rfl, rfl, rfl⟩ ?_
 intro ρ73 hI85
 refine UL.go ?_
 refine Wsr ?_
 refine W1 (OpT.lit (b := (decide ((0 : Int) < (0 : Int)))) (c := false) (by decide) (fun hk => OpT.ilt .i64 (0) (0) hI85.2.2.2.2.2.2.2.2.2.2 hI85.2.2.2.2.2.2.2.2.2.1 hk) ?_)
 refine Wnt ?_
 refine WC.seq ?_
 refine WC.condF rfl ?_
 refine WC.exit ?_
 refine thenQ_x ?_
 refine unrQ_x ?_
 refine blkQ_hit ?_
 refine thenQ_n ?_
 refine WC.seq ?_
 refine Wsr ?_
 refine W1 (OpT.move (ii 1) hI85.2.2.2.2.2.2.2.1 ?_)
 refine W1 (OpT.move (ii 1) hI85.2.2.2.2.2.2.1 ?_)
 refine W1 (OpT.lit (b := (decide ((1 : Int) < (1 : Int)))) (c := false) (by decide) (fun hk => OpT.ilt .i64 (1) (1) rfl rfl hk) ?_)
 refine Wnt ?_
 refine WC.condF rfl ?_
 refine WC.skip ?_
 refine thenQ_n ?_
 refine Wsr ?_
 refine W1 (OpT.loadS ⟨b20, 0, none⟩ (sl g64 1 cap65) ta68 hI85.2.2.1 (st72.cellB (i := 5) rfl rfl) ?_)
 refine W1 (OpT.move (vs 120) hI85.1 ?_)
 refine W1 (OpT.callC cal50 [] [] [(sl g64 1 cap65), (vs 120)] rfl (ca2 rfl rfl) ?_)
 refine calls_of_WC (m := 19) (rs := [.tmp 4]) Try.func50 rfl rfl rfl rfl ?_
 refine Wsr ?_
 refine W1 (OpT.assign (ii 0) rfl ?_)
 refine Wnt ?_
 refine WC.seq ?_
 refine Wsr ?_
 refine W1 (OpT.move (sl g64 1 cap65) rfl ?_)
 refine W1 (OpT.litV (v := (ni 1)) (v' := (ii 1)) rfl (fun hk => OpT.lenS _ 1 cap65 rfl tu68 rfl hk) ?_)
 refine W1 (OpT.move (ii 0) rfl ?_)
 refine Wnt ?_
 refine WC.block ?_
 refine WC.unroll 12 ?_
 refine UL.cut (fun r => r 0 = (sl g64 1 cap65) ∧ r 1 = (vs 120) ∧ r 7 = (ii 1) ∧ r 8 = (ii 0)) ⟨rfl, rfl, rfl, rfl⟩ ?_
 intro ρ86 hI91
 refine UL.go ?_
 refine Wsr ?_
 refine W1 (OpT.lit (b := (decide ((0 : Int) < (1 : Int)))) (c := true) (by decide) (fun hk => OpT.ilt .i64 (0) (1) hI91.2.2.2 hI91.2.2.1 hk) ?_)
 refine Wnt ?_
 refine WC.seq ?_
 refine WC.condT rfl ?_
 refine WC.skip ?_
 refine thenQ_n ?_
 refine WC.seq ?_
 refine WC.block ?_
 refine Wsr ?_
 refine W1 (OpT.move (ii 0) hI91.2.2.2 ?_)
 refine W1 (OpT.assign (ii 0) rfl ?_)
 refine Wns ?_
 refine W1 (OpT.move (vs 120) hI91.2.1 ?_)
 refine W1 (OpT.move (sl g64 1 cap65) hI91.1 ?_)
 refine W1 (OpT.move (ii 0) rfl ?_)
 refine W1 (OpT.idx 1 ⟨g64, 0, none⟩ ⟨g64, 0, none⟩ 1 cap65 .i64 0 tu68 ts9 rfl rfl (by decide) (by decide) rfl ?_)
 refine W1 (OpT.loadS ⟨g64, 0, none⟩ (vs 120) ta9 rfl (st72.cellB (i := 0) rfl rfl) ?_)
 refine W1 (OpT.lit (b := (decide ((⟨#[120]⟩ : ByteArray) = (⟨#[120]⟩ : ByteArray)))) (c := true) (by decide) (fun hk => OpT.seq ((⟨#[120]⟩ : ByteArray)) ((⟨#[120]⟩ : ByteArray)) rfl rfl hk) ?_)
 refine Wnt ?_
 refine WC.condT rfl ?_
 refine Wsr ?_
 refine W1 (OpT.move (ii 0) rfl ?_)
 refine W1 (OpT.assign (ii 0) rfl ?_)
 refine Wnt ?_
 refine WC.ret <| blkQ_r <| thenQ_r <| unrQ_r <| blkQ_r <| thenQ_r <| retQ.one (ii 0) rfl ?_
 refine ⟨_, rfl, ?_⟩
 refine W1 (OpT.assign (ii 0) rfl ?_)
 refine Wns ?_
 refine W1 (OpT.loadS ⟨b20, 0, none⟩ (sl g64 1 cap65) ta68 hI85.2.2.1 (st72.cellB (i := 5) rfl rfl) ?_)
 refine W1 (OpT.move (ii 0) rfl ?_)
 refine W1 (OpT.sliceLo0 tu68 ts9 rfl rfl ?_)
 refine W1 (OpT.callC cal52 [] [] [(sl g64 1 cap65)] rfl (ca1 rfl) ?_)
 refine calls_of_WC (m := 4) (rs := [.tmp 2]) Try.func52 rfl rfl rfl rfl ?_
 refine Wsr ?_
 refine W1 (OpT.box st72 (sl g64 1 cap65) [(sl g64 1 cap65)] rfl rfl (fun b92 w93 st94 => ?_))
 refine W1 (OpT.assign .nilFunc rfl ?_)
 refine Wns ?_
 refine W1 (OpT.makeFunc [] [(pt b92 0)] mk0 (mk1 rfl) ?_)
 refine W1 (OpT.assign (.func (.func 63) #[] #[(pt b92 0)]) rfl ?_)
 refine Wnt ?_
 refine WC.ret <| retQ.one (.func (.func 63) #[] #[(pt b92 0)]) rfl ?_
 refine ⟨_, rfl, ?_⟩
 refine W1 (OpT.callS cal51 [] [] [(.func (.func 63) #[] #[(pt b92 0)])] rfl (ca1 rfl) (sortedVals_spec (zs := [[120]]) (ex := ex66) (st94 : St Z w0 w93 (Blk b92 68 [(sl g64 1 cap65)] :: Blk g64 9 (cx [(vs 120)] ex66) :: Blk g37 9 (cx [(vs 120), (vs 121), (vs 122)] ex39) :: Mp Value.string (fun v : Value => v) mb ([((⟨#[122]⟩ : ByteArray), (sl g1 2 d1)), ((⟨#[121]⟩ : ByteArray), (sl g2 1 d2)), ((⟨#[120]⟩ : ByteArray), vn)] : List (ByteArray × Value)) :: Blk b26 124 [(.func (.func 49) #[] #[(pt b10 0), (pt b20 0), (pt b1 0), (pt b13 0), (pt b26 0), (pt b23 0)])] :: Blk b23 74 [vn] :: Blk b20 68 [(sl g64 1 cap65)] :: Blk b13 81 [(.map (some b7))] :: Blk b10 81 [(.map (some b4))] :: Mp Value.string (Value.int .i64) b7 ([] : List (ByteArray × Int)) :: Mp Value.string (Value.int .i64) b4 ([((⟨#[120]⟩ : ByteArray), 1)] : List (ByteArray × Int)) :: Blk b1 99 [(.map (some mb))] :: Blk g1 9 (cx [(vs 121), (vs 122)] x1) :: Blk g2 9 (cx [(vs 120)] x2) :: L)) (by decide)) ?_)
 rintro v97 w98 ⟨o95, c96, st99⟩
 rw [List.mergeSort_singleton] at st99
 replace st99 : St Z w0 w98 (Row 9 1 v97 1 [(vs 120)] :: Blk b92 68 [(sl g64 1 cap65)] :: Blk g64 9 (cx [(vs 120)] ex66) :: Blk g37 9 (cx [(vs 120), (vs 121), (vs 122)] ex39) :: Mp Value.string (fun v : Value => v) mb ([((⟨#[122]⟩ : ByteArray), (sl g1 2 d1)), ((⟨#[121]⟩ : ByteArray), (sl g2 1 d2)), ((⟨#[120]⟩ : ByteArray), vn)] : List (ByteArray × Value)) :: Blk b26 124 [(.func (.func 49) #[] #[(pt b10 0), (pt b20 0), (pt b1 0), (pt b13 0), (pt b26 0), (pt b23 0)])] :: Blk b23 74 [vn] :: Blk b20 68 [(sl g64 1 cap65)] :: Blk b13 81 [(.map (some b7))] :: Blk b10 81 [(.map (some b4))] :: Mp Value.string (Value.int .i64) b7 ([] : List (ByteArray × Int)) :: Mp Value.string (Value.int .i64) b4 ([((⟨#[120]⟩ : ByteArray), 1)] : List (ByteArray × Int)) :: Blk b1 99 [(.map (some mb))] :: Blk g1 9 (cx [(vs 121), (vs 122)] x1) :: Blk g2 9 (cx [(vs 120)] x2) :: L) := st99
 obtain ⟨g100, cap101, ex102, rfl, hE103, hc104, hm105, st106⟩ := St.openRow (n := 1) (cs := [(vs 120)]) (by decide) st99
 replace st106 : St Z w0 w98 (Blk g100 9 (cx [(vs 120)] ex102) :: Blk b92 68 [(sl g64 1 cap65)] :: Blk g64 9 (cx [(vs 120)] ex66) :: Blk g37 9 (cx [(vs 120), (vs 121), (vs 122)] ex39) :: Mp Value.string (fun v : Value => v) mb ([((⟨#[122]⟩ : ByteArray), (sl g1 2 d1)), ((⟨#[121]⟩ : ByteArray), (sl g2 1 d2)), ((⟨#[120]⟩ : ByteArray), vn)] : List (ByteArray × Value)) :: Blk b26 124 [(.func (.func 49) #[] #[(pt b10 0), (pt b20 0), (pt b1 0), (pt b13 0), (pt b26 0), (pt b23 0)])] :: Blk b23 74 [vn] :: Blk b20 68 [(sl g64 1 cap65)] :: Blk b13 81 [(.map (some b7))] :: Blk b10 81 [(.map (some b4))] :: Mp Value.string (Value.int .i64) b7 ([] : List (ByteArray × Int)) :: Mp Value.string (Value.int .i64) b4 ([((⟨#[120]⟩ : ByteArray), 1)] : List (ByteArray × Int)) :: Blk b1 99 [(.map (some mb))] :: Blk g1 9 (cx [(vs 121), (vs 122)] x1) :: Blk g2 9 (cx [(vs 120)] x2) :: L) := st106
 refine W1 (OpT.assign (sl g100 1 cap101) rfl ?_)
 refine Wns ?_
 refine W1 (OpT.loadS ⟨b20, 0, none⟩ (sl g64 1 cap65) ta68 hI85.2.2.1 (st106.cellB (i := 7) rfl rfl) ?_)
 refine W1 (OpT.move (ii 0) rfl ?_)
 refine W1 (OpT.sliceHi 0 tu68 ts9 rfl rfl (by omega) rfl ?_)
 refine WL.stepN (OpT.storeS st106 7 (sl g64 0 cap65) rfl ts68 hI85.2.2.1 rfl rfl rfl rfl (fun w107 st108 => ?_))
 refine Wnt ?_
 refine WC.seq ?_
 refine Wsr ?_
 refine W1 (OpT.move (sl g100 1 cap101) rfl ?_)
 refine W1 (OpT.litV (v := (ni 1)) (v' := (ii 1)) rfl (fun hk => OpT.lenS _ 1 cap101 rfl tu68 rfl hk) ?_)
 refine W1 (OpT.move (ii 0) rfl ?_)
 refine Wnt ?_
 refine WC.block ?_
 refine WC.unroll 12 ?_
 refine UL.cut (fun r => r 4 = (pt b13 0) ∧ r 6 = (pt b23 0) ∧ r 9 = (ii 1) ∧ r 18 = (sl g100 1 cap101) ∧ r 81 = (sl g100 1 cap101) ∧ r 82 = (ii 1) ∧ r 83 = (ii 0)) ⟨hI85.2.2.2.1, hI85.2.2.2.2.2.1, hI85.2.2.2.2.2.2.1, rfl, rfl, rfl, rfl⟩ ?_
 have st117 : St Z w0 w107 (Blk g100 9 (cx [(vs 120)] ex102) :: Blk g64 9 (cx [(vs 120)] ex66) :: Blk g37 9 (cx [(vs 120), (vs 121), (vs 122)] ex39) :: Mp Value.string (fun v : Value => v) mb ([((⟨#[122]⟩ : ByteArray), (sl g1 2 d1)), ((⟨#[121]⟩ : ByteArray), (sl g2 1 d2)), ((⟨#[120]⟩ : ByteArray), vn)] : List (ByteArray × Value)) :: Blk b26 124 [(.func (.func 49) #[] #[(pt b10 0), (pt b20 0), (pt b1 0), (pt b13 0), (pt b26 0), (pt b23 0)])] :: Blk b23 74 [vn] :: Blk b20 68 [(sl g64 0 cap65)] :: Blk b13 81 [(.map (some b7))] :: Blk b10 81 [(.map (some b4))] :: Mp Value.string (Value.int .i64) b7 ([] : List (ByteArray × Int)) :: Mp Value.string (Value.int .i64) b4 ([((⟨#[120]⟩ : ByteArray), 1)] : List (ByteArray × Int)) :: Blk b1 99 [(.map (some mb))] :: Blk g1 9 (cx [(vs 121), (vs 122)] x1) :: Blk g2 9 (cx [(vs 120)] x2) :: L) := (St.selD 15 [0, 2, 3, 4, 5, 6, 7, 8, 9, 10, 11, 12, 13, 14] rfl rfl (by decide) st108)
 intro ρ109 hI118
 refine UL.go ?_
 refine Wsr ?_
 refine W1 (OpT.lit (b := (decide ((0 : Int) < (1 : Int)))) (c := true) (by decide) (fun hk => OpT.ilt .i64 (0) (1) hI118.2.2.2.2.2.2 hI118.2.2.2.2.2.1 hk) ?_)
 refine Wnt ?_
 refine WC.seq ?_
 refine WC.condT rfl ?_
 refine WC.skip ?_
 refine thenQ_n ?_
 refine WC.seq ?_
 refine WC.block ?_
 refine Wsr ?_
 refine W1 (OpT.idx 1 ⟨g100, 0, none⟩ ⟨g100, 0, none⟩ 1 cap101 .i64 0 tu68 ts9 hI118.2.2.2.2.1 hI118.2.2.2.2.2.2 (by decide) (by decide) rfl ?_)
 refine W1 (OpT.loadS ⟨g100, 0, none⟩ (vs 120) ta9 rfl (st117.cellB (i := 0) rfl rfl) ?_)
 refine W1 (OpT.assign (vs 120) rfl ?_)
 refine Wnr ?_
 refine W1 (OpT.loadS ⟨b13, 0, none⟩ (.map (some b7)) ta81 hI118.1 (st117.cellB (i := 7) rfl rfl) ?_)
 refine W1 (OpT.move (vs 120) rfl ?_)
 refine W1 (OpT.loadS ⟨b23, 0, none⟩ vn ta74 hI118.2.1 (st117.cellB (i := 5) rfl rfl) ?_)
 refine W1 (OpT.litV (v := (ni 0)) (v' := (ii 0)) rfl (fun hk => OpT.lenS none 0 0 rfl tu74 rfl hk) ?_)
 have e121 : mset ([] : List (ByteArray × Int)) (⟨#[120]⟩ : ByteArray) 0 = ([((⟨#[120]⟩ : ByteArray), 0)] : List (ByteArray × Int)) := by simp [mset_cons, mset_nil]
 refine WL.stepN (OpT.mapSet st117 9 rfl ko9 tu81 ((⟨#[120]⟩ : ByteArray)) (0) rfl rfl rfl (fun w119 st120 => ?_))
 rw [e121] at st120
 refine WL.nil ?_
 refine blkQ_n ?_
 refine thenQ_n ?_
 refine WC.region ?_
 refine W1 (OpT.iadd .i64 (0) (1) (1) hI118.2.2.2.2.2.2 rfl (by decide) ?_)
 refine W1 (OpT.move (ii 1) rfl ?_)
 refine WL.nil ?_
 refine unrQ_n ?_
 refine UL.cut (fun r => r 4 = (pt b13 0) ∧ r 6 = (pt b23 0) ∧ r 9 = (ii 1) ∧ r 18 = (sl g100 1 cap101) ∧ r 81 = (sl g100 1 cap101) ∧ r 82 = (ii 1) ∧ r 83 = (ii 1)) ⟨hI118.1, hI118.2.1, hI118.2.2.1, hI118.2.2.2.1, hI118.2.2.2.2.1, hI118.2.2.2.2.2.1, rfl⟩ ?_
 intro ρ122 hI130
 refine UL.go ?_
 refine Wsr ?_
 refine W1 (OpT.lit (b := (decide ((1 : Int) < (1 : Int)))) (c := false) (by decide) (fun hk => OpT.ilt .i64 (1) (1) hI130.2.2.2.2.2.2 hI130.2.2.2.2.2.1 hk) ?_)
 refine Wnt ?_
 refine WC.seq ?_
 refine WC.condF rfl ?_
 refine WC.exit ?_
 refine thenQ_x ?_
 refine unrQ_x ?_
 refine blkQ_hit ?_
 refine thenQ_n ?_
 refine Wsr ?_
 refine W1 (OpT.loadS ⟨b23, 0, none⟩ vn ta74 hI130.2.1 (st120.cellB (i := 5) rfl rfl) ?_)
 refine W1 (OpT.move (sl g100 1 cap101) hI130.2.2.2.1 ?_)
 refine W1 (OpT.buildSlice st120 [(0, (sl g100 1 cap101))] [(sl g100 1 cap101)] tu74 ts68 tz68 (mp1 rfl) (by kernel_rfl) (by decide) (fun b131 w132 st133 => ?_))
 have st134 := St.rowNil 68 1 (st133 : St Z w0 w132 (Blk b131 68 [(sl g100 1 cap101)] :: Blk g100 9 (cx [(vs 120)] ex102) :: Blk g64 9 (cx [(vs 120)] ex66) :: Blk g37 9 (cx [(vs 120), (vs 121), (vs 122)] ex39) :: Mp Value.string (fun v : Value => v) mb ([((⟨#[122]⟩ : ByteArray), (sl g1 2 d1)), ((⟨#[121]⟩ : ByteArray), (sl g2 1 d2)), ((⟨#[120]⟩ : ByteArray), vn)] : List (ByteArray × Value)) :: Blk b26 124 [(.func (.func 49) #[] #[(pt b10 0), (pt b20 0), (pt b1 0), (pt b13 0), (pt b26 0), (pt b23 0)])] :: Blk b23 74 [vn] :: Blk b20 68 [(sl g64 0 cap65)] :: Blk b13 81 [(.map (some b7))] :: Blk b10 81 [(.map (some b4))] :: Mp Value.string (Value.int .i64) b7 ([((⟨#[120]⟩ : ByteArray), 0)] : List (ByteArray × Int)) :: Mp Value.string (Value.int .i64) b4 ([((⟨#[120]⟩ : ByteArray), 1)] : List (ByteArray × Int)) :: Blk b1 99 [(.map (some mb))] :: Blk g1 9 (cx [(vs 121), (vs 122)] x1) :: Blk g2 9 (cx [(vs 120)] x2) :: L))
 have st135 : St Z w0 w132 (Blk b131 68 [(sl g100 1 cap101)] :: Row 68 1 vn 0 [] :: Blk g100 9 (cx [(vs 120)] ex102) :: Blk g64 9 (cx [(vs 120)] ex66) :: Blk g37 9 (cx [(vs 120), (vs 121), (vs 122)] ex39) :: Mp Value.string (fun v : Value => v) mb ([((⟨#[122]⟩ : ByteArray), (sl g1 2 d1)), ((⟨#[121]⟩ : ByteArray), (sl g2 1 d2)), ((⟨#[120]⟩ : ByteArray), vn)] : List (ByteArray × Value)) :: Blk b26 124 [(.func (.func 49) #[] #[(pt b10 0), (pt b20 0), (pt b1 0), (pt b13 0), (pt b26 0), (pt b23 0)])] :: Blk b23 74 [vn] :: Blk b20 68 [(sl g64 0 cap65)] :: Blk b13 81 [(.map (some b7))] :: Blk b10 81 [(.map (some b4))] :: Mp Value.string (Value.int .i64) b7 ([((⟨#[120]⟩ : ByteArray), 0)] : List (ByteArray × Int)) :: Mp Value.string (Value.int .i64) b4 ([((⟨#[120]⟩ : ByteArray), 1)] : List (ByteArray × Int)) :: Blk b1 99 [(.map (some mb))] :: Blk g1 9 (cx [(vs 121), (vs 122)] x1) :: Blk g2 9 (cx [(vs 120)] x2) :: L) := St.selT [Row 68 1 vn 0 [], Blk b131 68 [(sl g100 1 cap101)], Blk g100 9 (cx [(vs 120)] ex102), Blk g64 9 (cx [(vs 120)] ex66), Blk g37 9 (cx [(vs 120), (vs 121), (vs 122)] ex39), Mp Value.string (fun v : Value => v) mb ([((⟨#[122]⟩ : ByteArray), (sl g1 2 d1)), ((⟨#[121]⟩ : ByteArray), (sl g2 1 d2)), ((⟨#[120]⟩ : ByteArray), vn)] : List (ByteArray × Value)), Blk b26 124 [(.func (.func 49) #[] #[(pt b10 0), (pt b20 0), (pt b1 0), (pt b13 0), (pt b26 0), (pt b23 0)])], Blk b23 74 [vn], Blk b20 68 [(sl g64 0 cap65)], Blk b13 81 [(.map (some b7))], Blk b10 81 [(.map (some b4))], Mp Value.string (Value.int .i64) b7 ([((⟨#[120]⟩ : ByteArray), 0)] : List (ByteArray × Int)), Mp Value.string (Value.int .i64) b4 ([((⟨#[120]⟩ : ByteArray), 1)] : List (ByteArray × Int)), Blk b1 99 [(.map (some mb))], Blk g1 9 (cx [(vs 121), (vs 122)] x1), Blk g2 9 (cx [(vs 120)] x2)] [1, 0, 2, 3, 4, 5, 6, 7, 8, 9, 10, 11, 12, 13, 14, 15] rfl (by decide) st134
 refine W1 (OpT.append st135 1 tu74 ts68 tz68 rfl tb68 (by decide) rfl rfl rfl rfl (by decide) (by decide) (fun v136 w137 st138 hn139 => ?_))
 obtain ⟨g140, cap141, ex142, rfl, hE143, hc144, hm145, st146⟩ := St.openRow (n := 1) (cs := [(sl g100 1 cap101)]) (by decide) st138
 replace st146 : St Z w0 w137 (Blk g140 68 (cx [(sl g100 1 cap101)] ex142) :: Blk g100 9 (cx [(vs 120)] ex102) :: Blk g64 9 (cx [(vs 120)] ex66) :: Blk g37 9 (cx [(vs 120), (vs 121), (vs 122)] ex39) :: Mp Value.string (fun v : Value => v) mb ([((⟨#[122]⟩ : ByteArray), (sl g1 2 d1)), ((⟨#[121]⟩ : ByteArray), (sl g2 1 d2)), ((⟨#[120]⟩ : ByteArray), vn)] : List (ByteArray × Value)) :: Blk b26 124 [(.func (.func 49) #[] #[(pt b10 0), (pt b20 0), (pt b1 0), (pt b13 0), (pt b26 0), (pt b23 0)])] :: Blk b23 74 [vn] :: Blk b20 68 [(sl g64 0 cap65)] :: Blk b13 81 [(.map (some b7))] :: Blk b10 81 [(.map (some b4))] :: Mp Value.string (Value.int .i64) b7 ([((⟨#[120]⟩ : ByteArray), 0)] : List (ByteArray × Int)) :: Mp Value.string (Value.int .i64) b4 ([((⟨#[120]⟩ : ByteArray), 1)] : List (ByteArray × Int)) :: Blk b1 99 [(.map (some mb))] :: Blk g1 9 (cx [(vs 121), (vs 122)] x1) :: Blk g2 9 (cx [(vs 120)] x2) :: L) := st146
 refine WL.stepN (OpT.storeS st146 6 (sl g140 1 cap141) rfl ts74 hI130.2.1 rfl rfl rfl rfl (fun w147 st148 => ?_))
 refine Wns ?_
 refine W1 (OpT.move (ii 1) hI130.2.2.1 ?_)
 refine W1 (OpT.assign (ii 1) rfl ?_)
 refine Wnt ?_
 refine WC.ret <| retQ.one (ii 1) rfl ?_
 refine ⟨_, rfl, ?_⟩
 refine WL.nil ?_
 refine blkQ_n ?_
 refine thenQ_n ?_
 refine WC.region ?_
 refine W1 (OpT.iadd .i64 (0) (1) (1) hI51.2.2.2.2.2 rfl (by decide) ?_)
 refine W1 (OpT.move (ii 1) rfl ?_)
 refine WL.nil ?_
 refine unrQ_n ?_
 refine UL.cut (fun r => r 5 = (pt b13 0) ∧ r 7 = (pt b23 0) ∧ r 8 = (pt b26 0) ∧ r 17 = (sl g37 3 cap38) ∧ r 18 = (ii 3) ∧ r 19 = (ii 1)) ⟨hI51.1, hI51.2.1, hI51.2.2.1, hI51.2.2.2.1, hI51.2.2.2.2.1, rfl⟩ ?_
 intro ρ149 hI156
 refine UL.go ?_
 refine Wsr ?_
 refine W1 (OpT.lit (b := (decide ((1 : Int) < (3 : Int)))) (c := true) (by decide) (fun hk => OpT.ilt .i64 (1) (3) hI156.2.2.2.2.2 hI156.2.2.2.2.1 hk) ?_)
 refine Wnt ?_
 refine WC.seq ?_
 refine WC.condT rfl ?_
 refine WC.skip ?_
 refine thenQ_n ?_
 refine WC.seq ?_
 refine WC.block ?_
 refine Wsr ?_
 refine W1 (OpT.idx 1 ⟨g37, 0, none⟩ ⟨g37, 1, none⟩ 3 cap38 .i64 1 tu68 ts9 hI156.2.2.2.1 hI156.2.2.2.2.2 (by decide) (by decide) rfl ?_)
 refine W1 (OpT.loadS ⟨g37, 1, none⟩ (vs 121) ta9 rfl (st148.cellB (i := 3) rfl rfl) ?_)
 refine W1 (OpT.assign (vs 121) rfl ?_)
 refine Wns ?_
 refine W1 (OpT.loadS ⟨b13, 0, none⟩ (.map (some b7)) ta81 hI156.1 (st148.cellB (i := 8) rfl rfl) ?_)
 refine W1 (OpT.move (vs 121) rfl ?_)
 refine W1 (OpT.litV (v := (.tuple #[(.int .i64 (((mget ([((⟨#[120]⟩ : ByteArray), 0)] : List (ByteArray × Int)) (⟨#[121]⟩ : ByteArray)).getD 0))), (.bool ((mget ([((⟨#[120]⟩ : ByteArray), 0)] : List (ByteArray × Int)) (⟨#[121]⟩ : ByteArray)).isSome))])) (v' := (.tuple #[(ii 0), (.bool false)])) (by simp [mget_cons, mget_nil]) (fun hk => OpT.lookupOkI st148 10 rfl ko9 tu81 tz3 ((⟨#[121]⟩ : ByteArray)) rfl rfl hk) ?_)
 refine W1 (OpT.move (.tuple #[(ii 0), (.bool false)]) rfl ?_)
 refine W1 (OpT.extract [(ii 0), (.bool false)] (ii 0) rfl rfl ?_)
 refine W1 (OpT.extract [(ii 0), (.bool false)] (.bool false) rfl rfl ?_)
 refine W1 (OpT.assign (ii 0) rfl ?_)
 refine W1 (OpT.assign (.bool false) rfl ?_)
 refine Wns ?_
 refine W1 (OpT.move (.bool false) rfl ?_)
 refine W1 (OpT.not false rfl ?_)
 refine Wnt ?_
 refine WC.condT rfl ?_
 refine WC.region ?_
 refine W1 (OpT.loadS ⟨b26, 0, none⟩ (.func (.func 49) #[] #[(pt b10 0), (pt b20 0), (pt b1 0), (pt b13 0), (pt b26 0), (pt b23 0)]) ta124 hI156.2.2.1 (st148.cellB (i := 5) rfl rfl) ?_)
 refine W1 (OpT.move (vs 121) rfl ?_)
 refine W1 (OpT.callC cal49 [] [(pt b10 0), (pt b20 0), (pt b1 0), (pt b13 0), (pt b26 0), (pt b23 0)] [(vs 121), (pt b10 0), (pt b20 0), (pt b1 0), (pt b13 0), (pt b26 0), (pt b23 0)] rfl (ca1 rfl) ?_)
 refine calls_of_WC (m := 97) (rs := [.tmp 8]) Try.func49 rfl rfl rfl rfl ?_
 refine Wsr ?_
 refine W1 (OpT.assign (ii 0) rfl ?_)
 refine Wns ?_
 refine W1 (OpT.loadS ⟨b10, 0, none⟩ (.map (some b4)) ta81 rfl (st148.cellB (i := 9) rfl rfl) ?_)
 refine W1 (OpT.litV (v := (ni 1)) (v' := (ii 1)) rfl (fun hk => OpT.lenMap st148 11 rfl rfl tu81 rfl hk) ?_)
 refine W1 (OpT.iadd .i64 (1) (1) (2) rfl rfl (by decide) ?_)
 refine W1 (OpT.assign (ii 2) rfl ?_)
 refine Wns ?_
 refine W1 (OpT.loadS ⟨b10, 0, none⟩ (.map (some b4)) ta81 rfl (st148.cellB (i := 9) rfl rfl) ?_)
 refine W1 (OpT.move (vs 121) rfl ?_)
 refine W1 (OpT.move (ii 2) rfl ?_)
 have e159 : mset ([((⟨#[120]⟩ : ByteArray), 1)] : List (ByteArray × Int)) (⟨#[121]⟩ : ByteArray) 2 = ([((⟨#[120]⟩ : ByteArray), 1), ((⟨#[121]⟩ : ByteArray), 2)] : List (ByteArray × Int)) := by simp [mset_cons, mset_nil]
 refine WL.stepN (OpT.mapSet st148 11 rfl ko9 tu81 ((⟨#[121]⟩ : ByteArray)) (2) rfl rfl rfl (fun w157 st158 => ?_))
 rw [e159] at st158
 refine Wns ?_
 refine W1 (OpT.move (ii 2) rfl ?_)
 refine W1 (OpT.assign (ii 2) rfl ?_)
 refine Wns ?_
 refine W1 (OpT.loadS ⟨b20, 0, none⟩ (sl g64 0 cap65) ta68 rfl (st158.cellB (i := 7) rfl rfl) ?_)
 refine W1 (OpT.move (vs 121) rfl ?_)
 refine W1 (OpT.buildSlice st158 [(0, (vs 121))] [(vs 121)] tu68 ts9 tz9 (mp1 rfl) (by kernel_rfl) (by decide) (fun b160 w161 st162 => ?_))
 have st163 := St.shutRow (sz := 1) (n := 0) (cap := cap65) (cs := []) ((St.selD 16 [3, 0, 1, 2, 4, 5, 6, 7, 8, 9, 10, 11, 12, 13, 14, 15] rfl rfl (by decide) st162) : St Z w0 w161 (Blk g64 9 (cx [(vs 120)] ex66) :: Blk b160 9 [(vs 121)] :: Blk g140 68 (cx [(sl g100 1 cap101)] ex142) :: Blk g100 9 (cx [(vs 120)] ex102) :: Blk g37 9 (cx [(vs 120), (vs 121), (vs 122)] ex39) :: Mp Value.string (fun v : Value => v) mb ([((⟨#[122]⟩ : ByteArray), (sl g1 2 d1)), ((⟨#[121]⟩ : ByteArray), (sl g2 1 d2)), ((⟨#[120]⟩ : ByteArray), vn)] : List (ByteArray × Value)) :: Blk b26 124 [(.func (.func 49) #[] #[(pt b10 0), (pt b20 0), (pt b1 0), (pt b13 0), (pt b26 0), (pt b23 0)])] :: Blk b23 74 [(sl g140 1 cap141)] :: Blk b20 68 [(sl g64 0 cap65)] :: Blk b13 81 [(.map (some b7))] :: Blk b10 81 [(.map (some b4))] :: Mp Value.string (Value.int .i64) b7 ([((⟨#[120]⟩ : ByteArray), 0)] : List (ByteArray × Int)) :: Mp Value.string (Value.int .i64) b4 ([((⟨#[120]⟩ : ByteArray), 1), ((⟨#[121]⟩ : ByteArray), 2)] : List (ByteArray × Int)) :: Blk b1 99 [(.map (some mb))] :: Blk g1 9 (cx [(vs 121), (vs 122)] x1) :: Blk g2 9 (cx [(vs 120)] x2) :: L)) (by simp; omega) (by omega) hm69 rfl
 have st164 : St Z w0 w161 (Blk b160 9 [(vs 121)] :: Row 9 1 (sl g64 0 cap65) 0 [] :: Blk g140 68 (cx [(sl g100 1 cap101)] ex142) :: Blk g100 9 (cx [(vs 120)] ex102) :: Blk g37 9 (cx [(vs 120), (vs 121), (vs 122)] ex39) :: Mp Value.string (fun v : Value => v) mb ([((⟨#[122]⟩ : ByteArray), (sl g1 2 d1)), ((⟨#[121]⟩ : ByteArray), (sl g2 1 d2)), ((⟨#[120]⟩ : ByteArray), vn)] : List (ByteArray × Value)) :: Blk b26 124 [(.func (.func 49) #[] #[(pt b10 0), (pt b20 0), (pt b1 0), (pt b13 0), (pt b26 0), (pt b23 0)])] :: Blk b23 74 [(sl g140 1 cap141)] :: Blk b20 68 [(sl g64 0 cap65)] :: Blk b13 81 [(.map (some b7))] :: Blk b10 81 [(.map (some b4))] :: Mp Value.string (Value.int .i64) b7 ([((⟨#[120]⟩ : ByteArray), 0)] : List (ByteArray × Int)) :: Mp Value.string (Value.int .i64) b4 ([((⟨#[120]⟩ : ByteArray), 1), ((⟨#[121]⟩ : ByteArray), 2)] : List (ByteArray × Int)) :: Blk b1 99 [(.map (some mb))] :: Blk g1 9 (cx [(vs 121), (vs 122)] x1) :: Blk g2 9 (cx [(vs 120)] x2) :: L) := St.selT [Row 9 1 (sl g64 0 cap65) 0 [], Blk b160 9 [(vs 121)], Blk g140 68 (cx [(sl g100 1 cap101)] ex142), Blk g100 9 (cx [(vs 120)] ex102), Blk g37 9 (cx [(vs 120), (vs 121), (vs 122)] ex39), Mp Value.string (fun v : Value => v) mb ([((⟨#[122]⟩ : ByteArray), (sl g1 2 d1)), ((⟨#[121]⟩ : ByteArray), (sl g2 1 d2)), ((⟨#[120]⟩ : ByteArray), vn)] : List (ByteArray × Value)), Blk b26 124 [(.func (.func 49) #[] #[(pt b10 0), (pt b20 0), (pt b1 0), (pt b13 0), (pt b26 0), (pt b23 0)])], Blk b23 74 [(sl g140 1 cap141)], Blk b20 68 [(sl g64 0 cap65)], Blk b13 81 [(.map (some b7))], Blk b10 81 [(.map (some b4))], Mp Value.string (Value.int .i64) b7 ([((⟨#[120]⟩ : ByteArray), 0)] : List (ByteArray × Int)), Mp Value.string (Value.int .i64) b4 ([((⟨#[120]⟩ : ByteArray), 1), ((⟨#[121]⟩ : ByteArray), 2)] : List (ByteArray × Int)), Blk b1 99 [(.map (some mb))], Blk g1 9 (cx [(vs 121), (vs 122)] x1), Blk g2 9 (cx [(vs 120)] x2)] [1, 0, 2, 3, 4, 5, 6, 7, 8, 9, 10, 11, 12, 13, 14, 15] rfl (by decide) st163
 refine W1 (OpT.append st164 1 tu68 ts9 tz9 rfl tb9 (by decide) rfl rfl rfl rfl (by decide) (by decide) (fun v165 w166 st167 hn168 => ?_))
 obtain ⟨g169, cap170, ex171, rfl, hE172, hc173, hm174, st175⟩ := St.openRow (n := 1) (cs := [(vs 121)]) (by decide) st167
 replace st175 : St Z w0 w166 (Blk g169 9 (cx [(vs 121)] ex171) :: Blk g140 68 (cx [(sl g100 1 cap101)] ex142) :: Blk g100 9 (cx [(vs 120)] ex102) :: Blk g37 9 (cx [(vs 120), (vs 121), (vs 122)] ex39) :: Mp Value.string (fun v : Value => v) mb ([((⟨#[122]⟩ : ByteArray), (sl g1 2 d1)), ((⟨#[121]⟩ : ByteArray), (sl g2 1 d2)), ((⟨#[120]⟩ : ByteArray), vn)] : List (ByteArray × Value)) :: Blk b26 124 [(.func (.func 49) #[] #[(pt b10 0), (pt b20 0), (pt b1 0), (pt b13 0), (pt b26 0), (pt b23 0)])] :: Blk b23 74 [(sl g140 1 cap141)] :: Blk b20 68 [(sl g64 0 cap65)] :: Blk b13 81 [(.map (some b7))] :: Blk b10 81 [(.map (some b4))] :: Mp Value.string (Value.int .i64) b7 ([((⟨#[120]⟩ : ByteArray), 0)] : List (ByteArray × Int)) :: Mp Value.string (Value.int .i64) b4 ([((⟨#[120]⟩ : ByteArray), 1), ((⟨#[121]⟩ : ByteArray), 2)] : List (ByteArray × Int)) :: Blk b1 99 [(.map (some mb))] :: Blk g1 9 (cx [(vs 121), (vs 122)] x1) :: Blk g2 9 (cx [(vs 120)] x2) :: L) := st175
 refine WL.stepN (OpT.storeS st175 7 (sl g169 1 cap170) rfl ts68 rfl rfl rfl rfl rfl (fun w176 st177 => ?_))
 refine Wnt ?_
 refine WC.seq ?_
 refine Wsr ?_
 refine W1 (OpT.loadS ⟨b1, 0, none⟩ (.map (some mb)) ta99 rfl (st177.cellB (i := 12) rfl rfl) ?_)
 refine W1 (OpT.move (vs 121) rfl ?_)
 refine W1 (OpT.litV (v := ((mget ([((⟨#[122]⟩ : ByteArray), (sl g1 2 d1)), ((⟨#[121]⟩ : ByteArray), (sl g2 1 d2)), ((⟨#[120]⟩ : ByteArray), vn)] : List (ByteArray × Value)) (⟨#[121]⟩ : ByteArray)).getD vn)) (v' := (sl g2 1 d2)) (by simp [mget_cons, mget_nil]) (fun hk => OpT.lookupV st177 4 rfl ko9 tu99 tz68 ((⟨#[121]⟩ : ByteArray)) rfl rfl hk) ?_)
 refine W1 (OpT.litV (v := (ni 1)) (v' := (ii 1)) rfl (fun hk => OpT.lenS _ 1 d2 rfl tu68 rfl hk) ?_)
 refine W1 (OpT.move (ii 0) rfl ?_)
 refine Wnt ?_
 refine WC.block ?_
 refine WC.unroll 12 ?_
 refine UL.cut (fun r => r 0 = (vs 121) ∧ r 1 = (pt b10 0) ∧ r 2 = (pt b20 0) ∧ r 4 = (pt b13 0) ∧ r 5 = (pt b26 0) ∧ r 6 = (pt b23 0) ∧ r 9 = (ii 2) ∧ r 10 = (ii 2) ∧ r 34 = (sl g2 1 d2) ∧ r 35 = (ii 1) ∧ r 36 = (ii 0)) ⟨rfl, rfl, rfl, rfl, rfl, rfl, rfl, rfl, rfl, rfl, rfl⟩ ?_
 intro ρ178 hI190
 refine UL.go ?_
 refine Wsr ?_
 refine W1 (OpT.lit (b := (decide ((0 : Int) < (1 : Int)))) (c := true) (by decide) (fun hk => OpT.ilt .i64 (0) (1) hI190.2.2.2.2.2.2.2.2.2.2 hI190.2.2.2.2.2.2.2.2.2.1 hk) ?_)
 refine Wnt ?_
 refine WC.seq ?_
 refine WC.condT rfl ?_
 refine WC.skip ?_
 refine thenQ_n ?_
 refine WC.seq ?_
 refine WC.block ?_
 refine Wsr ?_
 refine W1 (OpT.idx 1 ⟨g2, 0, none⟩ ⟨g2, 0, none⟩ 1 d2 .i64 0 tu68 ts9 hI190.2.2.2.2.2.2.2.2.1 hI190.2.2.2.2.2.2.2.2.2.2 (by decide) (by decide) rfl ?_)
 refine W1 (OpT.loadS ⟨g2, 0, none⟩ (vs 120) ta9 rfl (st177.cellB (i := 14) rfl rfl) ?_)
 refine W1 (OpT.assign (vs 120) rfl ?_)
 refine Wnt ?_
 refine WC.seq ?_
 refine Wsr ?_
 refine W1 (OpT.loadS ⟨b13, 0, none⟩ (.map (some b7)) ta81 hI190.2.2.2.1 (st177.cellB (i := 8) rfl rfl) ?_)
 refine W1 (OpT.move (vs 120) rfl ?_)
 refine W1 (OpT.litV (v := (.tuple #[(.int .i64 (((mget ([((⟨#[120]⟩ : ByteArray), 0)] : List (ByteArray × Int)) (⟨#[120]⟩ : ByteArray)).getD 0))), (.bool ((mget ([((⟨#[120]⟩ : ByteArray), 0)] : List (ByteArray × Int)) (⟨#[120]⟩ : ByteArray)).isSome))])) (v' := (.tuple #[(ii 0), (.bool true)])) (by simp [mget_cons, mget_nil]) (fun hk => OpT.lookupOkI st177 10 rfl ko9 tu81 tz3 ((⟨#[120]⟩ : ByteArray)) rfl rfl hk) ?_)
 refine W1 (OpT.move (.tuple #[(ii 0), (.bool true)]) rfl ?_)
 refine W1 (OpT.extract [(ii 0), (.bool true)] (ii 0) rfl rfl ?_)
 refine W1 (OpT.extract [(ii 0), (.bool true)] (.bool true) rfl rfl ?_)
 refine W1 (OpT.assign (ii 0) rfl ?_)
 refine W1 (OpT.assign (.bool true) rfl ?_)
 refine Wns ?_
 refine W1 (OpT.move (.bool true) rfl ?_)
 refine Wnt ?_
 refine WC.condT rfl ?_
 refine WC.exit ?_
 refine thenQ_x ?_
 refine blkQ_hit ?_
 refine thenQ_n ?_
 refine WC.region ?_
 refine W1 (OpT.iadd .i64 (0) (1) (1) hI190.2.2.2.2.2.2.2.2.2.2 rfl (by decide) ?_)
 refine W1 (OpT.move (ii 1) rfl ?_)
 refine WL.nil ?_
 refine unrQ_n ?_
 refine UL.cut (fun r => r 0 = (vs 121) ∧ r 1 = (pt b10 0) ∧ r 2 = (pt b20 0) ∧ r 4 = (pt b13 0) ∧ r 5 = (pt b26 0) ∧ r 6 = (pt b23 0) ∧ r 9 = (ii 2) ∧ r 10 = (ii 2) ∧ r 34 = (sl g2 1 d2) ∧ r 35 = (ii 1) ∧ r 36 = (ii 1)) ⟨hI190.1, hI190.2.1, hI190.2.2.1, hI190.2.2.2.1, hI190.2.2.2.2.1, hI190.2.2.2.2.2.1, hI190.2.2.2.2.2.2.1, hI190.2.2.2.2.2.2.2.1, hI190.2.2.2.2.2.2.2.2.1, hI190.2.2.2.2.2.2.2.2.2.1, rfl⟩ ?_
 intro ρ191 hI203
 refine UL.go ?_
 refine Wsr ?_
 refine W1 (OpT.lit (b := (decide ((1 : Int) < (1 : Int)))) (c := false) (by decide) (fun hk => OpT.ilt .i64 (1) (1) hI203.2.2.2.2.2.2.2.2.2.2 hI203.2.2.2.2.2.2.2.2.2.1 hk) ?_)
 refine Wnt ?_
 refine WC.seq ?_
 refine WC.condF rfl ?_
 refine WC.exit ?_
 refine thenQ_x ?_
 refine unrQ_x ?_
 refine blkQ_hit ?_
 refine thenQ_n ?_
 refine WC.seq ?_
 refine Wsr ?_
 refine W1 (OpT.move (ii 2) hI203.2.2.2.2.2.2.2.1 ?_)
 refine W1 (OpT.move (ii 2) hI203.2.2.2.2.2.2.1 ?_)
 refine W1 (OpT.lit (b := (decide ((2 : Int) < (2 : Int)))) (c := false) (by decide) (fun hk => OpT.ilt .i64 (2) (2) rfl rfl hk) ?_)
 refine Wnt ?_
 refine WC.condF rfl ?_
 refine WC.skip ?_
 refine thenQ_n ?_
 refine Wsr ?_
 refine W1 (OpT.loadS ⟨b20, 0, none⟩ (sl g169 1 cap170) ta68 hI203.2.2.1 (st177.cellB (i := 7) rfl rfl) ?_)
 refine W1 (OpT.move (vs 121) hI203.1 ?_)
 refine W1 (OpT.callC cal50 [] [] [(sl g169 1 cap170), (vs 121)] rfl (ca2 rfl rfl) ?_)
 refine calls_of_WC (m := 19) (rs := [.tmp 4]) Try.func50 rfl rfl rfl rfl ?_
 refine Wsr ?_
 refine W1 (OpT.assign (ii 0) rfl ?_)
 refine Wnt ?_
 refine WC.seq ?_
 refine Wsr ?_
 refine W1 (OpT.move (sl g169 1 cap170) rfl ?_)
 refine W1 (OpT.litV (v := (ni 1)) (v' := (ii 1)) rfl (fun hk => OpT.lenS _ 1 cap170 rfl tu68 rfl hk) ?_)
 refine W1 (OpT.move (ii 0) rfl ?_)
 refine Wnt ?_
 refine WC.block ?_
 refine WC.unroll 12 ?_
 refine UL.cut (fun r => r 0 = (sl g169 1 cap170) ∧ r 1 = (vs 121) ∧ r 7 = (ii 1) ∧ r 8 = (ii 0)) ⟨rfl, rfl, rfl, rfl⟩ ?_
 intro ρ204 hI209
 refine UL.go ?_
 refine Wsr ?_
 refine W1 (OpT.lit (b := (decide ((0 : Int) < (1 : Int)))) (c := true) (by decide) (fun hk => OpT.ilt .i64 (0) (1) hI209.2.2.2 hI209.2.2.1 hk) ?_)
 refine Wnt ?_
 refine WC.seq ?_
 refine WC.condT rfl ?_
 refine WC.skip ?_
 refine thenQ_n ?_
 refine WC.seq ?_
 refine WC.block ?_
 refine Wsr ?_
 refine W1 (OpT.move (ii 0) hI209.2.2.2 ?_)
 refine W1 (OpT.assign (ii 0) rfl ?_)
 refine Wns ?_
 refine W1 (OpT.move (vs 121) hI209.2.1 ?_)
 refine W1 (OpT.move (sl g169 1 cap170) hI209.1 ?_)
 refine W1 (OpT.move (ii 0) rfl ?_)
 refine W1 (OpT.idx 1 ⟨g169, 0, none⟩ ⟨g169, 0, none⟩ 1 cap170 .i64 0 tu68 ts9 rfl rfl (by decide) (by decide) rfl ?_)
 refine W1 (OpT.loadS ⟨g169, 0, none⟩ (vs 121) ta9 rfl (st177.cellB (i := 0) rfl rfl) ?_)
 refine W1 (OpT.lit (b := (decide ((⟨#[121]⟩ : ByteArray) = (⟨#[121]⟩ : ByteArray)))) (c := true) (by decide) (fun hk => OpT.seq ((⟨#[121]⟩ : ByteArray)) ((⟨#[121]⟩ : ByteArray)) rfl rfl hk) ?_)
 refine Wnt ?_
 refine WC.condT rfl ?_
 refine Wsr ?_
 refine W1 (OpT.move (ii 0) rfl ?_)
 refine W1 (OpT.assign (ii 0) rfl ?_)
 refine Wnt ?_
 refine WC.ret <| blkQ_r <| thenQ_r <| unrQ_r <| blkQ_r <| thenQ_r <| retQ.one (ii 0) rfl ?_
 refine ⟨_, rfl, ?_⟩
 refine W1 (OpT.assign (ii 0) rfl ?_)
 refine Wns ?_
 refine W1 (OpT.loadS ⟨b20, 0, none⟩ (sl g169 1 cap170) ta68 hI203.2.2.1 (st177.cellB (i := 7) rfl rfl) ?_)
 refine W1 (OpT.move (ii 0) rfl ?_)
 refine W1 (OpT.sliceLo0 tu68 ts9 rfl rfl ?_)
 refine W1 (OpT.callC cal52 [] [] [(sl g169 1 cap170)] rfl (ca1 rfl) ?_)
 refine calls_of_WC (m := 4) (rs := [.tmp 2]) Try.func52 rfl rfl rfl rfl ?_
 refine Wsr ?_
 refine W1 (OpT.box st177 (sl g169 1 cap170) [(sl g169 1 cap170)] rfl rfl (fun b210 w211 st212 => ?_))
 refine W1 (OpT.assign .nilFunc rfl ?_)
 refine Wns ?_
 refine W1 (OpT.makeFunc [] [(pt b210 0)] mk0 (mk1 rfl) ?_)
 refine W1 (OpT.assign (.func (.func 63) #[] #[(pt b210 0)]) rfl ?_)
 refine Wnt ?_
 refine WC.ret <| retQ.one (.func (.func 63) #[] #[(pt b210 0)]) rfl ?_
 refine ⟨_, rfl, ?_⟩
 refine W1 (OpT.callS cal51 [] [] [(.func (.func 63) #[] #[(pt b210 0)])] rfl (ca1 rfl) (sortedVals_spec (zs := [[121]]) (ex := ex171) (st212 : St Z w0 w211 (Blk b210 68 [(sl g169 1 cap170)] :: Blk g169 9 (cx [(vs 121)] ex171) :: Blk g140 68 (cx [(sl g100 1 cap101)] ex142) :: Blk g100 9 (cx [(vs 120)] ex102) :: Blk g37 9 (cx [(vs 120), (vs 121), (vs 122)] ex39) :: Mp Value.string (fun v : Value => v) mb ([((⟨#[122]⟩ : ByteArray), (sl g1 2 d1)), ((⟨#[121]⟩ : ByteArray), (sl g2 1 d2)), ((⟨#[120]⟩ : ByteArray), vn)] : List (ByteArray × Value)) :: Blk b26 124 [(.func (.func 49) #[] #[(pt b10 0), (pt b20 0), (pt b1 0), (pt b13 0), (pt b26 0), (pt b23 0)])] :: Blk b23 74 [(sl g140 1 cap141)] :: Blk b20 68 [(sl g169 1 cap170)] :: Blk b13 81 [(.map (some b7))] :: Blk b10 81 [(.map (some b4))] :: Mp Value.string (Value.int .i64) b7 ([((⟨#[120]⟩ : ByteArray), 0)] : List (ByteArray × Int)) :: Mp Value.string (Value.int .i64) b4 ([((⟨#[120]⟩ : ByteArray), 1), ((⟨#[121]⟩ : ByteArray), 2)] : List (ByteArray × Int)) :: Blk b1 99 [(.map (some mb))] :: Blk g1 9 (cx [(vs 121), (vs 122)] x1) :: Blk g2 9 (cx [(vs 120)] x2) :: L)) (by decide)) ?_)
 rintro v215 w216 ⟨o213, c214, st217⟩
 rw [List.mergeSort_singleton] at st217
 replace st217 : St Z w0 w216 (Row 9 1 v215 1 [(vs 121)] :: Blk b210 68 [(sl g169 1 cap170)] :: Blk g169 9 (cx [(vs 121)] ex171) :: Blk g140 68 (cx [(sl g100 1 cap101)] ex142) :: Blk g100 9 (cx [(vs 120)] ex102) :: Blk g37 9 (cx [(vs 120), (vs 121), (vs 122)] ex39) :: Mp Value.string (fun v : Value => v) mb ([((⟨#[122]⟩ : ByteArray), (sl g1 2 d1)), ((⟨#[121]⟩ : ByteArray), (sl g2 1 d2)), ((⟨#[120]⟩ : ByteArray), vn)] : List (ByteArray × Value)) :: Blk b26 124 [(.func (.func 49) #[] #[(pt b10 0), (pt b20 0), (pt b1 0), (pt b13 0), (pt b26 0), (pt b23 0)])] :: Blk b23 74 [(sl g140 1 cap141)] :: Blk b20 68 [(sl g169 1 cap170)] :: Blk b13 81 [(.map (some b7))] :: Blk b10 81 [(.map (some b4))] :: Mp Value.string (Value.int .i64) b7 ([((⟨#[120]⟩ : ByteArray), 0)] : List (ByteArray × Int)) :: Mp Value.string (Value.int .i64) b4 ([((⟨#[120]⟩ : ByteArray), 1), ((⟨#[121]⟩ : ByteArray), 2)] : List (ByteArray × Int)) :: Blk b1 99 [(.map (some mb))] :: Blk g1 9 (cx [(vs 121), (vs 122)] x1) :: Blk g2 9 (cx [(vs 120)] x2) :: L) := st217
 obtain ⟨g218, cap219, ex220, rfl, hE221, hc222, hm223, st224⟩ := St.openRow (n := 1) (cs := [(vs 121)]) (by decide) st217
 replace st224 : St Z w0 w216 (Blk g218 9 (cx [(vs 121)] ex220) :: Blk b210 68 [(sl g169 1 cap170)] :: Blk g169 9 (cx [(vs 121)] ex171) :: Blk g140 68 (cx [(sl g100 1 cap101)] ex142) :: Blk g100 9 (cx [(vs 120)] ex102) :: Blk g37 9 (cx [(vs 120), (vs 121), (vs 122)] ex39) :: Mp Value.string (fun v : Value => v) mb ([((⟨#[122]⟩ : ByteArray), (sl g1 2 d1)), ((⟨#[121]⟩ : ByteArray), (sl g2 1 d2)), ((⟨#[120]⟩ : ByteArray), vn)] : List (ByteArray × Value)) :: Blk b26 124 [(.func (.func 49) #[] #[(pt b10 0), (pt b20 0), (pt b1 0), (pt b13 0), (pt b26 0), (pt b23 0)])] :: Blk b23 74 [(sl g140 1 cap141)] :: Blk b20 68 [(sl g169 1 cap170)] :: Blk b13 81 [(.map (some b7))] :: Blk b10 81 [(.map (some b4))] :: Mp Value.string (Value.int .i64) b7 ([((⟨#[120]⟩ : ByteArray), 0)] : List (ByteArray × Int)) :: Mp Value.string (Value.int .i64) b4 ([((⟨#[120]⟩ : ByteArray), 1), ((⟨#[121]⟩ : ByteArray), 2)] : List (ByteArray × Int)) :: Blk b1 99 [(.map (some mb))] :: Blk g1 9 (cx [(vs 121), (vs 122)] x1) :: Blk g2 9 (cx [(vs 120)] x2) :: L) := st224
 refine W1 (OpT.assign (sl g218 1 cap219) rfl ?_)
 refine Wns ?_
 refine W1 (OpT.loadS ⟨b20, 0, none⟩ (sl g169 1 cap170) ta68 hI203.2.2.1 (st224.cellB (i := 9) rfl rfl) ?_)
 refine W1 (OpT.move (ii 0) rfl ?_)
 refine W1 (OpT.sliceHi 0 tu68 ts9 rfl rfl (by omega) rfl ?_)
 refine WL.stepN (OpT.storeS st224 9 (sl g169 0 cap170) rfl ts68 hI203.2.2.1 rfl rfl rfl rfl (fun w225 st226 => ?_))
 refine Wnt ?_
 refine WC.seq ?_
 refine Wsr ?_
 refine W1 (OpT.move (sl g218 1 cap219) rfl ?_)
 refine W1 (OpT.litV (v := (ni 1)) (v' := (ii 1)) rfl (fun hk => OpT.lenS _ 1 cap219 rfl tu68 rfl hk) ?_)
 refine W1 (OpT.move (ii 0) rfl ?_)
 refine Wnt ?_
 refine WC.block ?_
 refine WC.unroll 12 ?_
 refine UL.cut (fun r => r 4 = (pt b13 0) ∧ r 6 = (pt b23 0) ∧ r 9 = (ii 2) ∧ r 18 = (sl g218 1 cap219) ∧ r 81 = (sl g218 1 cap219) ∧ r 82 = (ii 1) ∧ r 83 = (ii 0)) ⟨hI203.2.2.2.1, hI203.2.2.2.2.2.1, hI203.2.2.2.2.2.2.1, rfl, rfl, rfl, rfl⟩ ?_
 have st235 : St Z w0 w225 (Blk g218 9 (cx [(vs 121)] ex220) :: Blk g169 9 (cx [(vs 121)] ex171) :: Blk g140 68 (cx [(sl g100 1 cap101)] ex142) :: Blk g100 9 (cx [(vs 120)] ex102) :: Blk g37 9 (cx [(vs 120), (vs 121), (vs 122)] ex39) :: Mp Value.string (fun v : Value => v) mb ([((⟨#[122]⟩ : ByteArray), (sl g1 2 d1)), ((⟨#[121]⟩ : ByteArray), (sl g2 1 d2)), ((⟨#[120]⟩ : ByteArray), vn)] : List (ByteArray × Value)) :: Blk b26 124 [(.func (.func 49) #[] #[(pt b10 0), (pt b20 0), (pt b1 0), (pt b13 0), (pt b26 0), (pt b23 0)])] :: Blk b23 74 [(sl g140 1 cap141)] :: Blk b20 68 [(sl g169 0 cap170)] :: Blk b13 81 [(.map (some b7))] :: Blk b10 81 [(.map (some b4))] :: Mp Value.string (Value.int .i64) b7 ([((⟨#[120]⟩ : ByteArray), 0)] : List (ByteArray × Int)) :: Mp Value.string (Value.int .i64) b4 ([((⟨#[120]⟩ : ByteArray), 1), ((⟨#[121]⟩ : ByteArray), 2)] : List (ByteArray × Int)) :: Blk b1 99 [(.map (some mb))] :: Blk g1 9 (cx [(vs 121), (vs 122)] x1) :: Blk g2 9 (cx [(vs 120)] x2) :: L) := (St.selD 17 [0, 2, 3, 4, 5, 6, 7, 8, 9, 10, 11, 12, 13, 14, 15, 16] rfl rfl (by decide) st226)
 intro ρ227 hI236
 refine UL.go ?_
 refine Wsr ?_
 refine W1 (OpT.lit (b := (decide ((0 : Int) < (1 : Int)))) (c := true) (by decide) (fun hk => OpT.ilt .i64 (0) (1) hI236.2.2.2.2.2.2 hI236.2.2.2.2.2.1 hk) ?_)
 refine Wnt ?_
 refine WC.seq ?_
 refine WC.condT rfl ?_
 refine WC.skip ?_
 refine thenQ_n ?_
 refine WC.seq ?_
 refine WC.block ?_
 refine Wsr ?_
 refine W1 (OpT.idx 1 ⟨g218, 0, none⟩ ⟨g218, 0, none⟩ 1 cap219 .i64 0 tu68 ts9 hI236.2.2.2.2.1 hI236.2.2.2.2.2.2 (by decide) (by decide) rfl ?_)
 refine W1 (OpT.loadS ⟨g218, 0, none⟩ (vs 121) ta9 rfl (st235.cellB (i := 0) rfl rfl) ?_)
 refine W1 (OpT.assign (vs 121) rfl ?_)
 refine Wnr ?_
 refine W1 (OpT.loadS ⟨b13, 0, none⟩ (.map (some b7)) ta81 hI236.1 (st235.cellB (i := 9) rfl rfl) ?_)
 refine W1 (OpT.move (vs 121) rfl ?_)
 refine W1 (OpT.loadS ⟨b23, 0, none⟩ (sl g140 1 cap141) ta74 hI236.2.1 (st235.cellB (i := 7) rfl rfl) ?_)
 refine W1 (OpT.litV (v := (ni 1)) (v' := (ii 1)) rfl (fun hk => OpT.lenS _ 1 cap141 rfl tu74 rfl hk) ?_)
 have e239 : mset ([((⟨#[120]⟩ : ByteArray), 0)] : List (ByteArray × Int)) (⟨#[121]⟩ : ByteArray) 1 = ([((⟨#[120]⟩ : ByteArray), 0), ((⟨#[121]⟩ : ByteArray), 1)] : List (ByteArray × Int)) := by simp [mset_cons, mset_nil]
 refine WL.stepN (OpT.mapSet st235 11 rfl ko9 tu81 ((⟨#[121]⟩ : ByteArray)) (1) rfl rfl rfl (fun w237 st238 => ?_))
 rw [e239] at st238
 refine WL.nil ?_
 refine blkQ_n ?_
 refine thenQ_n ?_
 refine WC.region ?_
 refine W1 (OpT.iadd .i64 (0) (1) (1) hI236.2.2.2.2.2.2 rfl (by decide) ?_)
 refine W1 (OpT.move (ii 1) rfl ?_)
 refine WL.nil ?_
 refine unrQ_n ?_
 refine UL.cut (fun r => r 4 = (pt b13 0) ∧ r 6 = (pt b23 0) ∧ r 9 = (ii 2) ∧ r 18 = (sl g218 1 cap219) ∧ r 81 = (sl g218 1 cap219) ∧ r 82 = (ii 1) ∧ r 83 = (ii 1)) ⟨hI236.1, hI236.2.1, hI236.2.2.1, hI236.2.2.2.1, hI236.2.2.2.2.1, hI236.2.2.2.2.2.1, rfl⟩ ?_
 intro ρ240 hI248
 refine UL.go ?_
 refine Wsr ?_
 refine W1 (OpT.lit (b := (decide ((1 : Int) < (1 : Int)))) (c := false) (by decide) (fun hk => OpT.ilt .i64 (1) (1) hI248.2.2.2.2.2.2 hI248.2.2.2.2.2.1 hk) ?_)
 refine Wnt ?_
 refine WC.seq ?_
 refine WC.condF rfl ?_
 refine WC.exit ?_
 refine thenQ_x ?_
 refine unrQ_x ?_
 refine blkQ_hit ?_
 refine thenQ_n ?_
 refine Wsr ?_
 refine W1 (OpT.loadS ⟨b23, 0, none⟩ (sl g140 1 cap141) ta74 hI248.2.1 (st238.cellB (i := 7) rfl rfl) ?_)
 refine W1 (OpT.move (sl g218 1 cap219) hI248.2.2.2.1 ?_)
 refine W1 (OpT.buildSlice st238 [(0, (sl g218 1 cap219))] [(sl g218 1 cap219)] tu74 ts68 tz68 (mp1 rfl) (by kernel_rfl) (by decide) (fun b249 w250 st251 => ?_))
 have st252 := St.shutRow (sz := 1) (n := 1) (cap := cap141) (cs := [(sl g100 1 cap101)]) ((St.selD 17 [3, 0, 1, 2, 4, 5, 6, 7, 8, 9, 10, 11, 12, 13, 14, 15, 16] rfl rfl (by decide) st251) : St Z w0 w250 (Blk g140 68 (cx [(sl g100 1 cap101)] ex142) :: Blk b249 68 [(sl g218 1 cap219)] :: Blk g218 9 (cx [(vs 121)] ex220) :: Blk g169 9 (cx [(vs 121)] ex171) :: Blk g100 9 (cx [(vs 120)] ex102) :: Blk g37 9 (cx [(vs 120), (vs 121), (vs 122)] ex39) :: Mp Value.string (fun v : Value => v) mb ([((⟨#[122]⟩ : ByteArray), (sl g1 2 d1)), ((⟨#[121]⟩ : ByteArray), (sl g2 1 d2)), ((⟨#[120]⟩ : ByteArray), vn)] : List (ByteArray × Value)) :: Blk b26 124 [(.func (.func 49) #[] #[(pt b10 0), (pt b20 0), (pt b1 0), (pt b13 0), (pt b26 0), (pt b23 0)])] :: Blk b23 74 [(sl g140 1 cap141)] :: Blk b20 68 [(sl g169 0 cap170)] :: Blk b13 81 [(.map (some b7))] :: Blk b10 81 [(.map (some b4))] :: Mp Value.string (Value.int .i64) b7 ([((⟨#[120]⟩ : ByteArray), 0), ((⟨#[121]⟩ : ByteArray), 1)] : List (ByteArray × Int)) :: Mp Value.string (Value.int .i64) b4 ([((⟨#[120]⟩ : ByteArray), 1), ((⟨#[121]⟩ : ByteArray), 2)] : List (ByteArray × Int)) :: Blk b1 99 [(.map (some mb))] :: Blk g1 9 (cx [(vs 121), (vs 122)] x1) :: Blk g2 9 (cx [(vs 120)] x2) :: L)) (by simp; omega) (by omega) hm145 rfl
 have st253 : St Z w0 w250 (Blk b249 68 [(sl g218 1 cap219)] :: Row 68 1 (sl g140 1 cap141) 1 [(sl g100 1 cap101)] :: Blk g218 9 (cx [(vs 121)] ex220) :: Blk g169 9 (cx [(vs 121)] ex171) :: Blk g100 9 (cx [(vs 120)] ex102) :: Blk g37 9 (cx [(vs 120), (vs 121), (vs 122)] ex39) :: Mp Value.string (fun v : Value => v) mb ([((⟨#[122]⟩ : ByteArray), (sl g1 2 d1)), ((⟨#[121]⟩ : ByteArray), (sl g2 1 d2)), ((⟨#[120]⟩ : ByteArray), vn)] : List (ByteArray × Value)) :: Blk b26 124 [(.func (.func 49) #[] #[(pt b10 0), (pt b20 0), (pt b1 0), (pt b13 0), (pt b26 0), (pt b23 0)])] :: Blk b23 74 [(sl g140 1 cap141)] :: Blk b20 68 [(sl g169 0 cap170)] :: Blk b13 81 [(.map (some b7))] :: Blk b10 81 [(.map (some b4))] :: Mp Value.string (Value.int .i64) b7 ([((⟨#[120]⟩ : ByteArray), 0), ((⟨#[121]⟩ : ByteArray), 1)] : List (ByteArray × Int)) :: Mp Value.string (Value.int .i64) b4 ([((⟨#[120]⟩ : ByteArray), 1), ((⟨#[121]⟩ : ByteArray), 2)] : List (ByteArray × Int)) :: Blk b1 99 [(.map (some mb))] :: Blk g1 9 (cx [(vs 121), (vs 122)] x1) :: Blk g2 9 (cx [(vs 120)] x2) :: L) := St.selT [Row 68 1 (sl g140 1 cap141) 1 [(sl g100 1 cap101)], Blk b249 68 [(sl g218 1 cap219)], Blk g218 9 (cx [(vs 121)] ex220), Blk g169 9 (cx [(vs 121)] ex171), Blk g100 9 (cx [(vs 120)] ex102), Blk g37 9 (cx [(vs 120), (vs 121), (vs 122)] ex39), Mp Value.string (fun v : Value => v) mb ([((⟨#[122]⟩ : ByteArray), (sl g1 2 d1)), ((⟨#[121]⟩ : ByteArray), (sl g2 1 d2)), ((⟨#[120]⟩ : ByteArray), vn)] : List (ByteArray × Value)), Blk b26 124 [(.func (.func 49) #[] #[(pt b10 0), (pt b20 0), (pt b1 0), (pt b13 0), (pt b26 0), (pt b23 0)])], Blk b23 74 [(sl g140 1 cap141)], Blk b20 68 [(sl g169 0 cap170)], Blk b13 81 [(.map (some b7))], Blk b10 81 [(.map (some b4))], Mp Value.string (Value.int .i64) b7 ([((⟨#[120]⟩ : ByteArray), 0), ((⟨#[121]⟩ : ByteArray), 1)] : List (ByteArray × Int)), Mp Value.string (Value.int .i64) b4 ([((⟨#[120]⟩ : ByteArray), 1), ((⟨#[121]⟩ : ByteArray), 2)] : List (ByteArray × Int)), Blk b1 99 [(.map (some mb))], Blk g1 9 (cx [(vs 121), (vs 122)] x1), Blk g2 9 (cx [(vs 120)] x2)] [1, 0, 2, 3, 4, 5, 6, 7, 8, 9, 10, 11, 12, 13, 14, 15, 16] rfl (by decide) st252
 refine W1 (OpT.append st253 1 tu74 ts68 tz68 rfl tb68 (by decide) rfl rfl rfl rfl (by decide) (by decide) (fun v254 w255 st256 hn257 => ?_))
 obtain ⟨g258, cap259, ex260, rfl, hE261, hc262, hm263, st264⟩ := St.openRow (n := 2) (cs := [(sl g100 1 cap101), (sl g218 1 cap219)]) (by decide) st256
 replace st264 : St Z w0 w255 (Blk g258 68 (cx [(sl g100 1 cap101), (sl g218 1 cap219)] ex260) :: Blk g218 9 (cx [(vs 121)] ex220) :: Blk g169 9 (cx [(vs 121)] ex171) :: Blk g100 9 (cx [(vs 120)] ex102) :: Blk g37 9 (cx [(vs 120), (vs 121), (vs 122)] ex39) :: Mp Value.string (fun v : Value => v) mb ([((⟨#[122]⟩ : ByteArray), (sl g1 2 d1)), ((⟨#[121]⟩ : ByteArray), (sl g2 1 d2)), ((⟨#[120]⟩ : ByteArray), vn)] : List (ByteArray × Value)) :: Blk b26 124 [(.func (.func 49) #[] #[(pt b10 0), (pt b20 0), (pt b1 0), (pt b13 0), (pt b26 0), (pt b23 0)])] :: Blk b23 74 [(sl g140 1 cap141)] :: Blk b20 68 [(sl g169 0 cap170)] :: Blk b13 81 [(.map (some b7))] :: Blk b10 81 [(.map (some b4))] :: Mp Value.string (Value.int .i64) b7 ([((⟨#[120]⟩ : ByteArray), 0), ((⟨#[121]⟩ : ByteArray), 1)] : List (ByteArray × Int)) :: Mp Value.string (Value.int .i64) b4 ([((⟨#[120]⟩ : ByteArray), 1), ((⟨#[121]⟩ : ByteArray), 2)] : List (ByteArray × Int)) :: Blk b1 99 [(.map (some mb))] :: Blk g1 9 (cx [(vs 121), (vs 122)] x1) :: Blk g2 9 (cx [(vs 120)] x2) :: L) := st264
 refine WL.stepN (OpT.storeS st264 7 (sl g258 2 cap259) rfl ts74 hI248.2.1 rfl rfl rfl rfl (fun w265 st266 => ?_))
 refine Wns ?_
 refine W1 (OpT.move (ii 2) hI248.2.2.1 ?_)
 refine W1 (OpT.assign (ii 2) rfl ?_)
 refine Wnt ?_
 refine WC.ret <| retQ.one (ii 2) rfl ?_
 refine ⟨_, rfl, ?_⟩
 refine WL.nil ?_
 refine blkQ_n ?_
 refine thenQ_n ?_
 refine WC.region ?_
 refine W1 (OpT.iadd .i64 (1) (1) (2) hI156.2.2.2.2.2 rfl (by decide) ?_)
 refine W1 (OpT.move (ii 2) rfl ?_)
 refine WL.nil ?_
 refine unrQ_n ?_
 refine UL.cut (fun r => r 5 = (pt b13 0) ∧ r 7 = (pt b23 0) ∧ r 8 = (pt b26 0) ∧ r 17 = (sl g37 3 cap38) ∧ r 18 = (ii 3) ∧ r 19 = (ii 2)) ⟨hI156.1, hI156.2.1, hI156.2.2.1, hI156.2.2.2.1, hI156.2.2.2.2.1, rfl⟩ ?_
 intro ρ267 hI274
 refine UL.go ?_
 refine Wsr ?_
 refine W1 (OpT.lit (b := (decide ((2 : Int) < (3 : Int)))) (c := true) (by decide) (fun hk => OpT.ilt .i64 (2) (3) hI274.2.2.2.2.2 hI274.2.2.2.2.1 hk) ?_)
 refine Wnt ?_
 refine WC.seq ?_
 refine WC.condT rfl ?_
 refine WC.skip ?_
 refine thenQ_n ?_
 refine WC.seq ?_
 refine WC.block ?_
 refine Wsr ?_
 refine W1 (OpT.idx 1 ⟨g37, 0, none⟩ ⟨g37, 2, none⟩ 3 cap38 .i64 2 tu68 ts9 hI274.2.2.2.1 hI274.2.2.2.2.2 (by decide) (by decide) rfl ?_)
 refine W1 (OpT.loadS ⟨g37, 2, none⟩ (vs 122) ta9 rfl (st266.cellB (i := 4) rfl rfl) ?_)
 refine W1 (OpT.assign (vs 122) rfl ?_)
 refine Wns ?_
 refine W1 (OpT.loadS ⟨b13, 0, none⟩ (.map (some b7)) ta81 hI274.1 (st266.cellB (i := 9) rfl rfl) ?_)
 refine W1 (OpT.move (vs 122) rfl ?_)
 refine W1 (OpT.litV (v := (.tuple #[(.int .i64 (((mget ([((⟨#[120]⟩ : ByteArray), 0), ((⟨#[121]⟩ : ByteArray), 1)] : List (ByteArray × Int)) (⟨#[122]⟩ : ByteArray)).getD 0))), (.bool ((mget ([((⟨#[120]⟩ : ByteArray), 0), ((⟨#[121]⟩ : ByteArray), 1)] : List (ByteArray × Int)) (⟨#[122]⟩ : ByteArray)).isSome))])) (v' := (.tuple #[(ii 0), (.bool false)])) (by simp [mget_cons, mget_nil]) (fun hk => OpT.lookupOkI st266 11 rfl ko9 tu81 tz3 ((⟨#[122]⟩ : ByteArray)) rfl rfl hk) ?_)
 refine W1 (OpT.move (.tuple #[(ii 0), (.bool false)]) rfl ?_)
 refine W1 (OpT.extract [(ii 0), (.bool false)] (ii 0) rfl rfl ?_)
 refine W1 (OpT.extract [(ii 0), (.bool false)] (.bool false) rfl rfl ?_)
 refine W1 (OpT.assign (ii 0) rfl ?_)
 refine W1 (OpT.assign (.bool false) rfl ?_)
 refine Wns ?_
 refine W1 (OpT.move (.bool false) rfl ?_)
 refine W1 (OpT.not false rfl ?_)
 refine Wnt ?_
 refine WC.condT rfl ?_
 refine WC.region ?_
 refine W1 (OpT.loadS ⟨b26, 0, none⟩ (.func (.func 49) #[] #[(pt b10 0), (pt b20 0), (pt b1 0), (pt b13 0), (pt b26 0), (pt b23 0)]) ta124 hI274.2.2.1 (st266.cellB (i := 6) rfl rfl) ?_)
 refine W1 (OpT.move (vs 122) rfl ?_)
 refine W1 (OpT.callC cal49 [] [(pt b10 0), (pt b20 0), (pt b1 0), (pt b13 0), (pt b26 0), (pt b23 0)] [(vs 122), (pt b10 0), (pt b20 0), (pt b1 0), (pt b13 0), (pt b26 0), (pt b23 0)] rfl (ca1 rfl) ?_)
 refine calls_of_WC (m := 97) (rs := [.tmp 8]) Try.func49 rfl rfl rfl rfl ?_
 refine Wsr ?_
 refine W1 (OpT.assign (ii 0) rfl ?_)
 refine Wns ?_
 refine W1 (OpT.loadS ⟨b10, 0, none⟩ (.map (some b4)) ta81 rfl (st266.cellB (i := 10) rfl rfl) ?_)
 refine W1 (OpT.litV (v := (ni 2)) (v' := (ii 2)) rfl (fun hk => OpT.lenMap st266 12 rfl rfl tu81 rfl hk) ?_)
 refine W1 (OpT.iadd .i64 (2) (1) (3) rfl rfl (by decide) ?_)
 refine W1 (OpT.assign (ii 3) rfl ?_)
 refine Wns ?_
 refine W1 (OpT.loadS ⟨b10, 0, none⟩ (.map (some b4)) ta81 rfl (st266.cellB (i := 10) rfl rfl) ?_)
 refine W1 (OpT.move (vs 122) rfl ?_)
 refine W1 (OpT.move (ii 3) rfl ?_)
 have e277 : mset ([((⟨#[120]⟩ : ByteArray), 1), ((⟨#[121]⟩ : ByteArray), 2)] : List (ByteArray × Int)) (⟨#[122]⟩ : ByteArray) 3 = ([((⟨#[120]⟩ : ByteArray), 1), ((⟨#[121]⟩ : ByteArray), 2), ((⟨#[122]⟩ : ByteArray), 3)] : List (ByteArray × Int)) := by simp [mset_cons, mset_nil]
 refine WL.stepN (OpT.mapSet st266 12 rfl ko9 tu81 ((⟨#[122]⟩ : ByteArray)) (3) rfl rfl rfl (fun w275 st276 => ?_))
 rw [e277] at st276
 refine Wns ?_
 refine W1 (OpT.move (ii 3) rfl ?_)
 refine W1 (OpT.assign (ii 3) rfl ?_)
 refine Wns ?_
 refine W1 (OpT.loadS ⟨b20, 0, none⟩ (sl g169 0 cap170) ta68 rfl (st276.cellB (i := 8) rfl rfl) ?_)
 refine W1 (OpT.move (vs 122) rfl ?_)
 refine W1 (OpT.buildSlice st276 [(0, (vs 122))] [(vs 122)] tu68 ts9 tz9 (mp1 rfl) (by kernel_rfl) (by decide) (fun b278 w279 st280 => ?_))
 have st281 := St.shutRow (sz := 1) (n := 0) (cap := cap170) (cs := []) ((St.selD 17 [3, 0, 1, 2, 4, 5, 6, 7, 8, 9, 10, 11, 12, 13, 14, 15, 16] rfl rfl (by decide) st280) : St Z w0 w279 (Blk g169 9 (cx [(vs 121)] ex171) :: Blk b278 9 [(vs 122)] :: Blk g258 68 (cx [(sl g100 1 cap101), (sl g218 1 cap219)] ex260) :: Blk g218 9 (cx [(vs 121)] ex220) :: Blk g100 9 (cx [(vs 120)] ex102) :: Blk g37 9 (cx [(vs 120), (vs 121), (vs 122)] ex39) :: Mp Value.string (fun v : Value => v) mb ([((⟨#[122]⟩ : ByteArray), (sl g1 2 d1)), ((⟨#[121]⟩ : ByteArray), (sl g2 1 d2)), ((⟨#[120]⟩ : ByteArray), vn)] : List (ByteArray × Value)) :: Blk b26 124 [(.func (.func 49) #[] #[(pt b10 0), (pt b20 0), (pt b1 0), (pt b13 0), (pt b26 0), (pt b23 0)])] :: Blk b23 74 [(sl g258 2 cap259)] :: Blk b20 68 [(sl g169 0 cap170)] :: Blk b13 81 [(.map (some b7))] :: Blk b10 81 [(.map (some b4))] :: Mp Value.string (Value.int .i64) b7 ([((⟨#[120]⟩ : ByteArray), 0), ((⟨#[121]⟩ : ByteArray), 1)] : List (ByteArray × Int)) :: Mp Value.string (Value.int .i64) b4 ([((⟨#[120]⟩ : ByteArray), 1), ((⟨#[121]⟩ : ByteArray), 2), ((⟨#[122]⟩ : ByteArray), 3)] : List (ByteArray × Int)) :: Blk b1 99 [(.map (some mb))] :: Blk g1 9 (cx [(vs 121), (vs 122)] x1) :: Blk g2 9 (cx [(vs 120)] x2) :: L)) (by simp; omega) (by omega) hm174 rfl
 have st282 : St Z w0 w279 (Blk b278 9 [(vs 122)] :: Row 9 1 (sl g169 0 cap170) 0 [] :: Blk g258 68 (cx [(sl g100 1 cap101), (sl g218 1 cap219)] ex260) :: Blk g218 9 (cx [(vs 121)] ex220) :: Blk g100 9 (cx [(vs 120)] ex102) :: Blk g37 9 (cx [(vs 120), (vs 121), (vs 122)] ex39) :: Mp Value.string (fun v : Value => v) mb ([((⟨#[122]⟩ : ByteArray), (sl g1 2 d1)), ((⟨#[121]⟩ : ByteArray), (sl g2 1 d2)), ((⟨#[120]⟩ : ByteArray), vn)] : List (ByteArray × Value)) :: Blk b26 124 [(.func (.func 49) #[] #[(pt b10 0), (pt b20 0), (pt b1 0), (pt b13 0), (pt b26 0), (pt b23 0)])] :: Blk b23 74 [(sl g258 2 cap259)] :: Blk b20 68 [(sl g169 0 cap170)] :: Blk b13 81 [(.map (some b7))] :: Blk b10 81 [(.map (some b4))] :: Mp Value.string (Value.int .i64) b7 ([((⟨#[120]⟩ : ByteArray), 0), ((⟨#[121]⟩ : ByteArray), 1)] : List (ByteArray × Int)) :: Mp Value.string (Value.int .i64) b4 ([((⟨#[120]⟩ : ByteArray), 1), ((⟨#[121]⟩ : ByteArray), 2), ((⟨#[122]⟩ : ByteArray), 3)] : List (ByteArray × Int)) :: Blk b1 99 [(.map (some mb))] :: Blk g1 9 (cx [(vs 121), (vs 122)] x1) :: Blk g2 9 (cx [(vs 120)] x2) :: L) := St.selT [Row 9 1 (sl g169 0 cap170) 0 [], Blk b278 9 [(vs 122)], Blk g258 68 (cx [(sl g100 1 cap101), (sl g218 1 cap219)] ex260), Blk g218 9 (cx [(vs 121)] ex220), Blk g100 9 (cx [(vs 120)] ex102), Blk g37 9 (cx [(vs 120), (vs 121), (vs 122)] ex39), Mp Value.string (fun v : Value => v) mb ([((⟨#[122]⟩ : ByteArray), (sl g1 2 d1)), ((⟨#[121]⟩ : ByteArray), (sl g2 1 d2)), ((⟨#[120]⟩ : ByteArray), vn)] : List (ByteArray × Value)), Blk b26 124 [(.func (.func 49) #[] #[(pt b10 0), (pt b20 0), (pt b1 0), (pt b13 0), (pt b26 0), (pt b23 0)])], Blk b23 74 [(sl g258 2 cap259)], Blk b20 68 [(sl g169 0 cap170)], Blk b13 81 [(.map (some b7))], Blk b10 81 [(.map (some b4))], Mp Value.string (Value.int .i64) b7 ([((⟨#[120]⟩ : ByteArray), 0), ((⟨#[121]⟩ : ByteArray), 1)] : List (ByteArray × Int)), Mp Value.string (Value.int .i64) b4 ([((⟨#[120]⟩ : ByteArray), 1), ((⟨#[121]⟩ : ByteArray), 2), ((⟨#[122]⟩ : ByteArray), 3)] : List (ByteArray × Int)), Blk b1 99 [(.map (some mb))], Blk g1 9 (cx [(vs 121), (vs 122)] x1), Blk g2 9 (cx [(vs 120)] x2)] [1, 0, 2, 3, 4, 5, 6, 7, 8, 9, 10, 11, 12, 13, 14, 15, 16] rfl (by decide) st281
 refine W1 (OpT.append st282 1 tu68 ts9 tz9 rfl tb9 (by decide) rfl rfl rfl rfl (by decide) (by decide) (fun v283 w284 st285 hn286 => ?_))
 obtain ⟨g287, cap288, ex289, rfl, hE290, hc291, hm292, st293⟩ := St.openRow (n := 1) (cs := [(vs 122)]) (by decide) st285
 replace st293 : St Z w0 w284 (Blk g287 9 (cx [(vs 122)] ex289) :: Blk g258 68 (cx [(sl g100 1 cap101), (sl g218 1 cap219)] ex260) :: Blk g218 9 (cx [(vs 121)] ex220) :: Blk g100 9 (cx [(vs 120)] ex102) :: Blk g37 9 (cx [(vs 120), (vs 121), (vs 122)] ex39) :: Mp Value.string (fun v : Value => v) mb ([((⟨#[122]⟩ : ByteArray), (sl g1 2 d1)), ((⟨#[121]⟩ : ByteArray), (sl g2 1 d2)), ((⟨#[120]⟩ : ByteArray), vn)] : List (ByteArray × Value)) :: Blk b26 124 [(.func (.func 49) #[] #[(pt b10 0), (pt b20 0), (pt b1 0), (pt b13 0), (pt b26 0), (pt b23 0)])] :: Blk b23 74 [(sl g258 2 cap259)] :: Blk b20 68 [(sl g169 0 cap170)] :: Blk b13 81 [(.map (some b7))] :: Blk b10 81 [(.map (some b4))] :: Mp Value.string (Value.int .i64) b7 ([((⟨#[120]⟩ : ByteArray), 0), ((⟨#[121]⟩ : ByteArray), 1)] : List (ByteArray × Int)) :: Mp Value.string (Value.int .i64) b4 ([((⟨#[120]⟩ : ByteArray), 1), ((⟨#[121]⟩ : ByteArray), 2), ((⟨#[122]⟩ : ByteArray), 3)] : List (ByteArray × Int)) :: Blk b1 99 [(.map (some mb))] :: Blk g1 9 (cx [(vs 121), (vs 122)] x1) :: Blk g2 9 (cx [(vs 120)] x2) :: L) := st293
 refine WL.stepN (OpT.storeS st293 8 (sl g287 1 cap288) rfl ts68 rfl rfl rfl rfl rfl (fun w294 st295 => ?_))
 refine Wnt ?_
 refine WC.seq ?_
 refine Wsr ?_
 refine W1 (OpT.loadS ⟨b1, 0, none⟩ (.map (some mb)) ta99 rfl (st295.cellB (i := 13) rfl rfl) ?_)
 refine W1 (OpT.move (vs 122) rfl ?_)
 refine W1 (OpT.litV (v := ((mget ([((⟨#[122]⟩ : ByteArray), (sl g1 2 d1)), ((⟨#[121]⟩ : ByteArray), (sl g2 1 d2)), ((⟨#[120]⟩ : ByteArray), vn)] : List (ByteArray × Value)) (⟨#[122]⟩ : ByteArray)).getD vn)) (v' := (sl g1 2 d1)) (by simp [mget_cons, mget_nil]) (fun hk => OpT.lookupV st295 5 rfl ko9 tu99 tz68 ((⟨#[122]⟩ : ByteArray)) rfl rfl hk) ?_)
 refine W1 (OpT.litV (v := (ni 2)) (v' := (ii 2)) rfl (fun hk => OpT.lenS _ 2 d1 rfl tu68 rfl hk) ?_)
 refine W1 (OpT.move (ii 0) rfl ?_)
 refine Wnt ?_
 refine WC.block ?_
 refine WC.unroll 12 ?_
 refine UL.cut (fun r => r 0 = (vs 122) ∧ r 1 = (pt b10 0) ∧ r 2 = (pt b20 0) ∧ r 4 = (pt b13 0) ∧ r 5 = (pt b26 0) ∧ r 6 = (pt b23 0) ∧ r 9 = (ii 3) ∧ r 10 = (ii 3) ∧ r 34 = (sl g1 2 d1) ∧ r 35 = (ii 2) ∧ r 36 = (ii 0)) ⟨rfl, rfl, rfl, rfl, rfl, rfl, rfl, rfl, rfl, rfl, rfl⟩ ?_
 intro ρ296 hI308
 refine UL.go ?_
 refine Wsr ?_
 refine W1 (OpT.lit (b := (decide ((0 : Int) < (2 : Int)))) (c := true) (by decide) (fun hk => OpT.ilt .i64 (0) (2) hI308.2.2.2.2.2.2.2.2.2.2 hI308.2.2.2.2.2.2.2.2.2.1 hk) ?_)
 refine Wnt ?_
 refine WC.seq ?_
 refine WC.condT rfl ?_
 refine WC.skip ?_
 refine thenQ_n ?_
 refine WC.seq ?_
 refine WC.block ?_
 refine Wsr ?_
 refine W1 (OpT.idx 1 ⟨g1, 0, none⟩ ⟨g1, 0, none⟩ 2 d1 .i64 0 tu68 ts9 hI308.2.2.2.2.2.2.2.2.1 hI308.2.2.2.2.2.2.2.2.2.2 (by decide) (by decide) rfl ?_)
 refine W1 (OpT.loadS ⟨g1, 0, none⟩ (vs 121) ta9 rfl (st295.cellB (i := 14) rfl rfl) ?_)
 refine W1 (OpT.assign (vs 121) rfl ?_)
 refine Wnt ?_
 refine WC.seq ?_
 refine Wsr ?_
 refine W1 (OpT.loadS ⟨b13, 0, none⟩ (.map (some b7)) ta81 hI308.2.2.2.1 (st295.cellB (i := 9) rfl rfl) ?_)
 refine W1 (OpT.move (vs 121) rfl ?_)
 refine W1 (OpT.litV (v := (.tuple #[(.int .i64 (((mget ([((⟨#[120]⟩ : ByteArray), 0), ((⟨#[121]⟩ : ByteArray), 1)] : List (ByteArray × Int)) (⟨#[121]⟩ : ByteArray)).getD 0))), (.bool ((mget ([((⟨#[120]⟩ : ByteArray), 0), ((⟨#[121]⟩ : ByteArray), 1)] : List (ByteArray × Int)) (⟨#[121]⟩ : ByteArray)).isSome))])) (v' := (.tuple #[(ii 1), (.bool true)])) (by simp [mget_cons, mget_nil]) (fun hk => OpT.lookupOkI st295 11 rfl ko9 tu81 tz3 ((⟨#[121]⟩ : ByteArray)) rfl rfl hk) ?_)
 refine W1 (OpT.move (.tuple #[(ii 1), (.bool true)]) rfl ?_)
 refine W1 (OpT.extract [(ii 1), (.bool true)] (ii 1) rfl rfl ?_)
 refine W1 (OpT.extract [(ii 1), (.bool true)] (.bool true) rfl rfl ?_)
 refine W1 (OpT.assign (ii 1) rfl ?_)
 refine W1 (OpT.assign (.bool true) rfl ?_)
 refine Wns ?_
 refine W1 (OpT.move (.bool true) rfl ?_)
 refine Wnt ?_
 refine WC.condT rfl ?_
 refine WC.exit ?_
 refine thenQ_x ?_
 refine blkQ_hit ?_
 refine thenQ_n ?_
 refine WC.region ?_
 refine W1 (OpT.iadd .i64 (0) (1) (1) hI308.2.2.2.2.2.2.2.2.2.2 rfl (by decide) ?_)
 refine W1 (OpT.move (ii 1) rfl ?_)
 refine WL.nil ?_
 refine unrQ_n ?_
 refine UL.cut (fun r => r 0 = (vs 122) ∧ r 1 = (pt b10 0) ∧ r 2 = (pt b20 0) ∧ r 4 = (pt b13 0) ∧ r 5 = (pt b26 0) ∧ r 6 = (pt b23 0) ∧ r 9 = (ii 3) ∧ r 10 = (ii 3) ∧ r 34 = (sl g1 2 d1) ∧ r 35 = (ii 2) ∧ r 36 = (ii 1)) ⟨hI308.1, hI308.2.1, hI308.2.2.1, hI308.2.2.2.1, hI308.2.2.2.2.1, hI308.2.2.2.2.2.1, hI308.2.2.2.2.2.2.1, hI308.2.2.2.2.2.2.2.1, hI308.2.2.2.2.2.2.2.2.1, hI308.2.2.2.2.2.2.2.2.2.1, rfl⟩ ?_
 intro ρ309 hI321
 refine UL.go ?_
 refine Wsr ?_
 refine W1 (OpT.lit (b := (decide ((1 : Int) < (2 : Int)))) (c := true) (by decide) (fun hk => OpT.ilt .i64 (1) (2) hI321.2.2.2.2.2.2.2.2.2.2 hI321.2.2.2.2.2.2.2.2.2.1 hk) ?_)
 refine Wnt ?_
 refine WC.seq ?_
 refine WC.condT rfl ?_
 refine WC.skip ?_
 refine thenQ_n ?_
 refine WC.seq ?_
 refine WC.block ?_
 refine Wsr ?_
 refine W1 (OpT.idx 1 ⟨g1, 0, none⟩ ⟨g1, 1, none⟩ 2 d1 .i64 1 tu68 ts9 hI321.2.2.2.2.2.2.2.2.1 hI321.2.2.2.2.2.2.2.2.2.2 (by decide) (by decide) rfl ?_)
 refine W1 (OpT.loadS ⟨g1, 1, none⟩ (vs 122) ta9 rfl (st295.cellB (i := 14) rfl rfl) ?_)
 refine W1 (OpT.assign (vs 122) rfl ?_)
 refine Wnt ?_
 refine WC.seq ?_
 refine Wsr ?_
 refine W1 (OpT.loadS ⟨b13, 0, none⟩ (.map (some b7)) ta81 hI321.2.2.2.1 (st295.cellB (i := 9) rfl rfl) ?_)
 refine W1 (OpT.move (vs 122) rfl ?_)
 refine W1 (OpT.litV (v := (.tuple #[(.int .i64 (((mget ([((⟨#[120]⟩ : ByteArray), 0), ((⟨#[121]⟩ : ByteArray), 1)] : List (ByteArray × Int)) (⟨#[122]⟩ : ByteArray)).getD 0))), (.bool ((mget ([((⟨#[120]⟩ : ByteArray), 0), ((⟨#[121]⟩ : ByteArray), 1)] : List (ByteArray × Int)) (⟨#[122]⟩ : ByteArray)).isSome))])) (v' := (.tuple #[(ii 0), (.bool false)])) (by simp [mget_cons, mget_nil]) (fun hk => OpT.lookupOkI st295 11 rfl ko9 tu81 tz3 ((⟨#[122]⟩ : ByteArray)) rfl rfl hk) ?_)
 refine W1 (OpT.move (.tuple #[(ii 0), (.bool false)]) rfl ?_)
 refine W1 (OpT.extract [(ii 0), (.bool false)] (ii 0) rfl rfl ?_)
 refine W1 (OpT.extract [(ii 0), (.bool false)] (.bool false) rfl rfl ?_)
 refine W1 (OpT.assign (ii 0) rfl ?_)
 refine W1 (OpT.assign (.bool false) rfl ?_)
 refine Wns ?_
 refine W1 (OpT.move (.bool false) rfl ?_)
 refine Wnt ?_
 refine WC.condF rfl ?_
 refine WC.skip ?_
 refine thenQ_n ?_
 refine Wsr ?_
 refine W1 (OpT.loadS ⟨b10, 0, none⟩ (.map (some b4)) ta81 hI321.2.1 (st295.cellB (i := 10) rfl rfl) ?_)
 refine W1 (OpT.move (vs 122) rfl ?_)
 refine W1 (OpT.litV (v := (.tuple #[(.int .i64 (((mget ([((⟨#[120]⟩ : ByteArray), 1), ((⟨#[121]⟩ : ByteArray), 2), ((⟨#[122]⟩ : ByteArray), 3)] : List (ByteArray × Int)) (⟨#[122]⟩ : ByteArray)).getD 0))), (.bool ((mget ([((⟨#[120]⟩ : ByteArray), 1), ((⟨#[121]⟩ : ByteArray), 2), ((⟨#[122]⟩ : ByteArray), 3)] : List (ByteArray × Int)) (⟨#[122]⟩ : ByteArray)).isSome))])) (v' := (.tuple #[(ii 3), (.bool true)])) (by simp [mget_cons, mget_nil]) (fun hk => OpT.lookupOkI st295 12 rfl ko9 tu81 tz3 ((⟨#[122]⟩ : ByteArray)) rfl rfl hk) ?_)
 refine W1 (OpT.move (.tuple #[(ii 3), (.bool true)]) rfl ?_)
 refine W1 (OpT.extract [(ii 3), (.bool true)] (ii 3) rfl rfl ?_)
 refine W1 (OpT.extract [(ii 3), (.bool true)] (.bool true) rfl rfl ?_)
 refine W1 (OpT.assign (ii 3) rfl ?_)
 refine W1 (OpT.assign (.bool true) rfl ?_)
 refine Wns ?_
 refine W1 (OpT.move (.bool true) rfl ?_)
 refine Wnt ?_
 refine WC.condT rfl ?_
 refine WC.region ?_
 refine W1 (OpT.move (ii 3) hI321.2.2.2.2.2.2.2.1 ?_)
 refine W1 (OpT.move (ii 3) rfl ?_)
 refine W1 (OpT.litV (v := (.int .i64 ((if (3 : Int) < 3 then 3 else 3)))) (v' := (ii 3)) (rfl) (fun hk => OpT.minI .i64 3 3 rfl rfl hk) ?_)
 refine W1 (OpT.assign (ii 3) rfl ?_)
 refine WL.nil ?_
 refine blkQ_n ?_
 refine thenQ_n ?_
 refine WC.region ?_
 refine W1 (OpT.iadd .i64 (1) (1) (2) hI321.2.2.2.2.2.2.2.2.2.2 rfl (by decide) ?_)
 refine W1 (OpT.move (ii 2) rfl ?_)
 refine WL.nil ?_
 refine unrQ_n ?_
 refine UL.cut (fun r => r 0 = (vs 122) ∧ r 1 = (pt b10 0) ∧ r 2 = (pt b20 0) ∧ r 4 = (pt b13 0) ∧ r 5 = (pt b26 0) ∧ r 6 = (pt b23 0) ∧ r 9 = (ii 3) ∧ r 10 = (ii 3) ∧ r 34 = (sl g1 2 d1) ∧ r 35 = (ii 2) ∧ r 36 = (ii 2)) ⟨hI321.1, hI321.2.1, hI321.2.2.1, hI321.2.2.2.1, hI321.2.2.2.2.1, hI321.2.2.2.2.2.1, hI321.2.2.2.2.2.2.1, rfl, hI321.2.2.2.2.2.2.2.2.1, hI321.2.2.2.2.2.2.2.2.2.1, rfl⟩ ?_
 intro ρ322 hI334
 refine UL.go ?_
 refine Wsr ?_
 refine W1 (OpT.lit (b := (decide ((2 : Int) < (2 : Int)))) (c := false) (by decide) (fun hk => OpT.ilt .i64 (2) (2) hI334.2.2.2.2.2.2.2.2.2.2 hI334.2.2.2.2.2.2.2.2.2.1 hk) ?_)
 refine Wnt ?_
 refine WC.seq ?_
 refine WC.condF rfl ?_
 refine WC.exit ?_
 refine thenQ_x ?_
 refine unrQ_x ?_
 refine blkQ_hit ?_
 refine thenQ_n ?_
 refine WC.seq ?_
 refine Wsr ?_
 refine W1 (OpT.move (ii 3) hI334.2.2.2.2.2.2.2.1 ?_)
 refine W1 (OpT.move (ii 3) hI334.2.2.2.2.2.2.1 ?_)
 refine W1 (OpT.lit (b := (decide ((3 : Int) < (3 : Int)))) (c := false) (by decide) (fun hk => OpT.ilt .i64 (3) (3) rfl rfl hk) ?_)
 refine Wnt ?_
 refine WC.condF rfl ?_
 refine WC.skip ?_
 refine thenQ_n ?_
 refine Wsr ?_
 refine W1 (OpT.loadS ⟨b20, 0, none⟩ (sl g287 1 cap288) ta68 hI334.2.2.1 (st295.cellB (i := 8) rfl rfl) ?_)
 refine W1 (OpT.move (vs 122) hI334.1 ?_)
 refine W1 (OpT.callC cal50 [] [] [(sl g287 1 cap288), (vs 122)] rfl (ca2 rfl rfl) ?_)
 refine calls_of_WC (m := 19) (rs := [.tmp 4]) Try.func50 rfl rfl rfl rfl ?_
 refine Wsr ?_
 refine W1 (OpT.assign (ii 0) rfl ?_)
 refine Wnt ?_
 refine WC.seq ?_
 refine Wsr ?_
 refine W1 (OpT.move (sl g287 1 cap288) rfl ?_)
 refine W1 (OpT.litV (v := (ni 1)) (v' := (ii 1)) rfl (fun hk => OpT.lenS _ 1 cap288 rfl tu68 rfl hk) ?_)
 refine W1 (OpT.move (ii 0) rfl ?_)
 refine Wnt ?_
 refine WC.block ?_
 refine WC.unroll 12 ?_
 refine UL.cut (fun r => r 0 = (sl g287 1 cap288) ∧ r 1 = (vs 122) ∧ r 7 = (ii 1) ∧ r 8 = (ii 0)) ⟨rfl, rfl, rfl, rfl⟩ ?_
 intro ρ335 hI340
 refine UL.go ?_
 refine Wsr ?_
 refine W1 (OpT.lit (b := (decide ((0 : Int) < (1 : Int)))) (c := true) (by decide) (fun hk => OpT.ilt .i64 (0) (1) hI340.2.2.2 hI340.2.2.1 hk) ?_)
 refine Wnt ?_
 refine WC.seq ?_
 refine WC.condT rfl ?_
 refine WC.skip ?_
 refine thenQ_n ?_
 refine WC.seq ?_
 refine WC.block ?_
 refine Wsr ?_
 refine W1 (OpT.move (ii 0) hI340.2.2.2 ?_)
 refine W1 (OpT.assign (ii 0) rfl ?_)
 refine Wns ?_
 refine W1 (OpT.move (vs 122) hI340.2.1 ?_)
 refine W1 (OpT.move (sl g287 1 cap288) hI340.1 ?_)
 refine W1 (OpT.move (ii 0) rfl ?_)
 refine W1 (OpT.idx 1 ⟨g287, 0, none⟩ ⟨g287, 0, none⟩ 1 cap288 .i64 0 tu68 ts9 rfl rfl (by decide) (by decide) rfl ?_)
 refine W1 (OpT.loadS ⟨g287, 0, none⟩ (vs 122) ta9 rfl (st295.cellB (i := 0) rfl rfl) ?_)
 refine W1 (OpT.lit (b := (decide ((⟨#[122]⟩ : ByteArray) = (⟨#[122]⟩ : ByteArray)))) (c := true) (by decide) (fun hk => OpT.seq ((⟨#[122]⟩ : ByteArray)) ((⟨#[122]⟩ : ByteArray)) rfl rfl hk) ?_)
 refine Wnt ?_
 refine WC.condT rfl ?_
 refine Wsr ?_
 refine W1 (OpT.move (ii 0) rfl ?_)
 refine W1 (OpT.assign (ii 0) rfl ?_)
 refine Wnt ?_
 refine WC.ret <| blkQ_r <| thenQ_r <| unrQ_r <| blkQ_r <| thenQ_r <| retQ.one (ii 0) rfl ?_
 refine ⟨_, rfl, ?_⟩
 refine W1 (OpT.assign (ii 0) rfl ?_)
 refine Wns ?_
 refine W1 (OpT.loadS ⟨b20, 0, none⟩ (sl g287 1 cap288) ta68 hI334.2.2.1 (st295.cellB (i := 8) rfl rfl) ?_)
 refine W1 (OpT.move (ii 0) rfl ?_)
 refine W1 (OpT.sliceLo0 tu68 ts9 rfl rfl ?_)
 refine W1 (OpT.callC cal52 [] [] [(sl g287 1 cap288)] rfl (ca1 rfl) ?_)
 refine calls_of_WC (m := 4) (rs := [.tmp 2]) Try.func52 rfl rfl rfl rfl ?_
 refine Wsr ?_
 refine W1 (OpT.box st295 (sl g287 1 cap288) [(sl g287 1 cap288)] rfl rfl (fun b341 w342 st343 => ?_))
 refine W1 (OpT.assign .nilFunc rfl ?_)
 refine Wns ?_
 refine W1 (OpT.makeFunc [] [(pt b341 0)] mk0 (mk1 rfl) ?_)
 refine W1 (OpT.assign (.func (.func 63) #[] #[(pt b341 0)]) rfl ?_)
 refine Wnt ?_
 refine WC.ret <| retQ.one (.func (.func 63) #[] #[(pt b341 0)]) rfl ?_
 refine ⟨_, rfl, ?_⟩
 refine W1 (OpT.callS cal51 [] [] [(.func (.func 63) #[] #[(pt b341 0)])] rfl (ca1 rfl) (sortedVals_spec (zs := [[122]]) (ex := ex289) (st343 : St Z w0 w342 (Blk b341 68 [(sl g287 1 cap288)] :: Blk g287 9 (cx [(vs 122)] ex289) :: Blk g258 68 (cx [(sl g100 1 cap101), (sl g218 1 cap219)] ex260) :: Blk g218 9 (cx [(vs 121)] ex220) :: Blk g100 9 (cx [(vs 120)] ex102) :: Blk g37 9 (cx [(vs 120), (vs 121), (vs 122)] ex39) :: Mp Value.string (fun v : Value => v) mb ([((⟨#[122]⟩ : ByteArray), (sl g1 2 d1)), ((⟨#[121]⟩ : ByteArray), (sl g2 1 d2)), ((⟨#[120]⟩ : ByteArray), vn)] : List (ByteArray × Value)) :: Blk b26 124 [(.func (.func 49) #[] #[(pt b10 0), (pt b20 0), (pt b1 0), (pt b13 0), (pt b26 0), (pt b23 0)])] :: Blk b23 74 [(sl g258 2 cap259)] :: Blk b20 68 [(sl g287 1 cap288)] :: Blk b13 81 [(.map (some b7))] :: Blk b10 81 [(.map (some b4))] :: Mp Value.string (Value.int .i64) b7 ([((⟨#[120]⟩ : ByteArray), 0), ((⟨#[121]⟩ : ByteArray), 1)] : List (ByteArray × Int)) :: Mp Value.string (Value.int .i64) b4 ([((⟨#[120]⟩ : ByteArray), 1), ((⟨#[121]⟩ : ByteArray), 2), ((⟨#[122]⟩ : ByteArray), 3)] : List (ByteArray × Int)) :: Blk b1 99 [(.map (some mb))] :: Blk g1 9 (cx [(vs 121), (vs 122)] x1) :: Blk g2 9 (cx [(vs 120)] x2) :: L)) (by decide)) ?_)
 rintro v346 w347 ⟨o344, c345, st348⟩
 rw [List.mergeSort_singleton] at st348
 replace st348 : St Z w0 w347 (Row 9 1 v346 1 [(vs 122)] :: Blk b341 68 [(sl g287 1 cap288)] :: Blk g287 9 (cx [(vs 122)] ex289) :: Blk g258 68 (cx [(sl g100 1 cap101), (sl g218 1 cap219)] ex260) :: Blk g218 9 (cx [(vs 121)] ex220) :: Blk g100 9 (cx [(vs 120)] ex102) :: Blk g37 9 (cx [(vs 120), (vs 121), (vs 122)] ex39) :: Mp Value.string (fun v : Value => v) mb ([((⟨#[122]⟩ : ByteArray), (sl g1 2 d1)), ((⟨#[121]⟩ : ByteArray), (sl g2 1 d2)), ((⟨#[120]⟩ : ByteArray), vn)] : List (ByteArray × Value)) :: Blk b26 124 [(.func (.func 49) #[] #[(pt b10 0), (pt b20 0), (pt b1 0), (pt b13 0), (pt b26 0), (pt b23 0)])] :: Blk b23 74 [(sl g258 2 cap259)] :: Blk b20 68 [(sl g287 1 cap288)] :: Blk b13 81 [(.map (some b7))] :: Blk b10 81 [(.map (some b4))] :: Mp Value.string (Value.int .i64) b7 ([((⟨#[120]⟩ : ByteArray), 0), ((⟨#[121]⟩ : ByteArray), 1)] : List (ByteArray × Int)) :: Mp Value.string (Value.int .i64) b4 ([((⟨#[120]⟩ : ByteArray), 1), ((⟨#[121]⟩ : ByteArray), 2), ((⟨#[122]⟩ : ByteArray), 3)] : List (ByteArray × Int)) :: Blk b1 99 [(.map (some mb))] :: Blk g1 9 (cx [(vs 121), (vs 122)] x1) :: Blk g2 9 (cx [(vs 120)] x2) :: L) := st348
 obtain ⟨g349, cap350, ex351, rfl, hE352, hc353, hm354, st355⟩ := St.openRow (n := 1) (cs := [(vs 122)]) (by decide) st348
 replace st355 : St Z w0 w347 (Blk g349 9 (cx [(vs 122)] ex351) :: Blk b341 68 [(sl g287 1 cap288)] :: Blk g287 9 (cx [(vs 122)] ex289) :: Blk g258 68 (cx [(sl g100 1 cap101), (sl g218 1 cap219)] ex260) :: Blk g218 9 (cx [(vs 121)] ex220) :: Blk g100 9 (cx [(vs 120)] ex102) :: Blk g37 9 (cx [(vs 120), (vs 121), (vs 122)] ex39) :: Mp Value.string (fun v : Value => v) mb ([((⟨#[122]⟩ : ByteArray), (sl g1 2 d1)), ((⟨#[121]⟩ : ByteArray), (sl g2 1 d2)), ((⟨#[120]⟩ : ByteArray), vn)] : List (ByteArray × Value)) :: Blk b26 124 [(.func (.func 49) #[] #[(pt b10 0), (pt b20 0), (pt b1 0), (pt b13 0), (pt b26 0), (pt b23 0)])] :: Blk b23 74 [(sl g258 2 cap259)] :: Blk b20 68 [(sl g287 1 cap288)] :: Blk b13 81 [(.map (some b7))] :: Blk b10 81 [(.map (some b4))] :: Mp Value.string (Value.int .i64) b7 ([((⟨#[120]⟩ : ByteArray), 0), ((⟨#[121]⟩ : ByteArray), 1)] : List (ByteArray × Int)) :: Mp Value.string (Value.int .i64) b4 ([((⟨#[120]⟩ : ByteArray), 1), ((⟨#[121]⟩ : ByteArray), 2), ((⟨#[122]⟩ : ByteArray), 3)] : List (ByteArray × Int)) :: Blk b1 99 [(.map (some mb))] :: Blk g1 9 (cx [(vs 121), (vs 122)] x1) :: Blk g2 9 (cx [(vs 120)] x2) :: L) := st355
 refine W1 (OpT.assign (sl g349 1 cap350) rfl ?_)
 refine Wns ?_
 refine W1 (OpT.loadS ⟨b20, 0, none⟩ (sl g287 1 cap288) ta68 hI334.2.2.1 (st355.cellB (i := 10) rfl rfl) ?_)
 refine W1 (OpT.move (ii 0) rfl ?_)
 refine W1 (OpT.sliceHi 0 tu68 ts9 rfl rfl (by omega) rfl ?_)
 refine WL.stepN (OpT.storeS st355 10 (sl g287 0 cap288) rfl ts68 hI334.2.2.1 rfl rfl rfl rfl (fun w356 st357 => ?_))
 refine Wnt ?_
 refine WC.seq ?_
 refine Wsr ?_
 refine W1 (OpT.move (sl g349 1 cap350) rfl ?_)
 refine W1 (OpT.litV (v := (ni 1)) (v' := (ii 1)) rfl (fun hk => OpT.lenS _ 1 cap350 rfl tu68 rfl hk) ?_)
 refine W1 (OpT.move (ii 0) rfl ?_)
 refine Wnt ?_
 refine WC.block ?_
 refine WC.unroll 12 ?_
 refine UL.cut (fun r => r 4 = (pt b13 0) ∧ r 6 = (pt b23 0) ∧ r 9 = (ii 3) ∧ r 18 = (sl g349 1 cap350) ∧ r 81 = (sl g349 1 cap350) ∧ r 82 = (ii 1) ∧ r 83 = (ii 0)) ⟨hI334.2.2.2.1, hI334.2.2.2.2.2.1, hI334.2.2.2.2.2.2.1, rfl, rfl, rfl, rfl⟩ ?_
 have st366 : St Z w0 w356 (Blk g349 9 (cx [(vs 122)] ex351) :: Blk g287 9 (cx [(vs 122)] ex289) :: Blk g258 68 (cx [(sl g100 1 cap101), (sl g218 1 cap219)] ex260) :: Blk g218 9 (cx [(vs 121)] ex220) :: Blk g100 9 (cx [(vs 120)] ex102) :: Blk g37 9 (cx [(vs 120), (vs 121), (vs 122)] ex39) :: Mp Value.string (fun v : Value => v) mb ([((⟨#[122]⟩ : ByteArray), (sl g1 2 d1)), ((⟨#[121]⟩ : ByteArray), (sl g2 1 d2)), ((⟨#[120]⟩ : ByteArray), vn)] : List (ByteArray × Value)) :: Blk b26 124 [(.func (.func 49) #[] #[(pt b10 0), (pt b20 0), (pt b1 0), (pt b13 0), (pt b26 0), (pt b23 0)])] :: Blk b23 74 [(sl g258 2 cap259)] :: Blk b20 68 [(sl g287 0 cap288)] :: Blk b13 81 [(.map (some b7))] :: Blk b10 81 [(.map (some b4))] :: Mp Value.string (Value.int .i64) b7 ([((⟨#[120]⟩ : ByteArray), 0), ((⟨#[121]⟩ : ByteArray), 1)] : List (ByteArray × Int)) :: Mp Value.string (Value.int .i64) b4 ([((⟨#[120]⟩ : ByteArray), 1), ((⟨#[121]⟩ : ByteArray), 2), ((⟨#[122]⟩ : ByteArray), 3)] : List (ByteArray × Int)) :: Blk b1 99 [(.map (some mb))] :: Blk g1 9 (cx [(vs 121), (vs 122)] x1) :: Blk g2 9 (cx [(vs 120)] x2) :: L) := (St.selD 18 [0, 2, 3, 4, 5, 6, 7, 8, 9, 10, 11, 12, 13, 14, 15, 16, 17] rfl rfl (by decide) st357)
 intro ρ358 hI367
 refine UL.go ?_
 refine Wsr ?_
 refine W1 (OpT.lit (b := (decide ((0 : Int) < (1 : Int)))) (c := true) (by decide) (fun hk => OpT.ilt .i64 (0) (1) hI367.2.2.2.2.2.2 hI367.2.2.2.2.2.1 hk) ?_)
 refine Wnt ?_
 refine WC.seq ?_
 refine WC.condT rfl ?_
 refine WC.skip ?_
 refine thenQ_n ?_
 refine WC.seq ?_
 refine WC.block ?_
 refine Wsr ?_
 refine W1 (OpT.idx 1 ⟨g349, 0, none⟩ ⟨g349, 0, none⟩ 1 cap350 .i64 0 tu68 ts9 hI367.2.2.2.2.1 hI367.2.2.2.2.2.2 (by decide) (by decide) rfl ?_)
 refine W1 (OpT.loadS ⟨g349, 0, none⟩ (vs 122) ta9 rfl (st366.cellB (i := 0) rfl rfl) ?_)
 refine W1 (OpT.assign (vs 122) rfl ?_)
 refine Wnr ?_
 refine W1 (OpT.loadS ⟨b13, 0, none⟩ (.map (some b7)) ta81 hI367.1 (st366.cellB (i := 10) rfl rfl) ?_)
 refine W1 (OpT.move (vs 122) rfl ?_)
 refine W1 (OpT.loadS ⟨b23, 0, none⟩ (sl g258 2 cap259) ta74 hI367.2.1 (st366.cellB (i := 8) rfl rfl) ?_)
 refine W1 (OpT.litV (v := (ni 2)) (v' := (ii 2)) rfl (fun hk => OpT.lenS _ 2 cap259 rfl tu74 rfl hk) ?_)
 have e370 : mset ([((⟨#[120]⟩ : ByteArray), 0), ((⟨#[121]⟩ : ByteArray), 1)] : List (ByteArray × Int)) (⟨#[122]⟩ : ByteArray) 2 = ([((⟨#[120]⟩ : ByteArray), 0), ((⟨#[121]⟩ : ByteArray), 1), ((⟨#[122]⟩ : ByteArray), 2)] : List (ByteArray × Int)) := by simp [mset_cons, mset_nil]
 refine WL.stepN (OpT.mapSet st366 12 rfl ko9 tu81 ((⟨#[122]⟩ : ByteArray)) (2) rfl rfl rfl (fun w368 st369 => ?_))
 rw [e370] at st369
 refine WL.nil ?_
 refine blkQ_n ?_
 refine thenQ_n ?_
 refine WC.region ?_
 refine W1 (OpT.iadd .i64 (0) (1) (1) hI367.2.2.2.2.2.2 rfl (by decide) ?_)
 refine W1 (OpT.move (ii 1) rfl ?_)
 refine WL.nil ?_
 refine unrQ_n ?_
 refine UL.cut (fun r => r 4 = (pt b13 0) ∧ r 6 = (pt b23 0) ∧ r 9 = (ii 3) ∧ r 18 = (sl g349 1 cap350) ∧ r 81 = (sl g349 1 cap350) ∧ r 82 = (ii 1) ∧ r 83 = (ii 1)) ⟨hI367.1, hI367.2.1, hI367.2.2.1, hI367.2.2.2.1, hI367.2.2.2.2.1, hI367.2.2.2.2.2.1, rfl⟩ ?_
 intro ρ371 hI379
 refine UL.go ?_
 refine Wsr ?_
 refine W1 (OpT.lit (b := (decide ((1 : Int) < (1 : Int)))) (c := false) (by decide) (fun hk => OpT.ilt .i64 (1) (1) hI379.2.2.2.2.2.2 hI379.2.2.2.2.2.1 hk) ?_)
 refine Wnt ?_
 refine WC.seq ?_
 refine WC.condF rfl ?_
 refine WC.exit ?_
 refine thenQ_x ?_
 refine unrQ_x ?_
 refine blkQ_hit ?_
 refine thenQ_n ?_
 refine Wsr ?_
 refine W1 (OpT.loadS ⟨b23, 0, none⟩ (sl g258 2 cap259) ta74 hI379.2.1 (st369.cellB (i := 8) rfl rfl) ?_)
 refine W1 (OpT.move (sl g349 1 cap350) hI379.2.2.2.1 ?_)
 refine W1 (OpT.buildSlice st369 [(0, (sl g349 1 cap350))] [(sl g349 1 cap350)] tu74 ts68 tz68 (mp1 rfl) (by kernel_rfl) (by decide) (fun b380 w381 st382 => ?_))
 have st383 := St.shutRow (sz := 1) (n := 2) (cap := cap259) (cs := [(sl g100 1 cap101), (sl g218 1 cap219)]) ((St.selD 18 [3, 0, 1, 2, 4, 5, 6, 7, 8, 9, 10, 11, 12, 13, 14, 15, 16, 17] rfl rfl (by decide) st382) : St Z w0 w381 (Blk g258 68 (cx [(sl g100 1 cap101), (sl g218 1 cap219)] ex260) :: Blk b380 68 [(sl g349 1 cap350)] :: Blk g349 9 (cx [(vs 122)] ex351) :: Blk g287 9 (cx [(vs 122)] ex289) :: Blk g218 9 (cx [(vs 121)] ex220) :: Blk g100 9 (cx [(vs 120)] ex102) :: Blk g37 9 (cx [(vs 120), (vs 121), (vs 122)] ex39) :: Mp Value.string (fun v : Value => v) mb ([((⟨#[122]⟩ : ByteArray), (sl g1 2 d1)), ((⟨#[121]⟩ : ByteArray), (sl g2 1 d2)), ((⟨#[120]⟩ : ByteArray), vn)] : List (ByteArray × Value)) :: Blk b26 124 [(.func (.func 49) #[] #[(pt b10 0), (pt b20 0), (pt b1 0), (pt b13 0), (pt b26 0), (pt b23 0)])] :: Blk b23 74 [(sl g258 2 cap259)] :: Blk b20 68 [(sl g287 0 cap288)] :: Blk b13 81 [(.map (some b7))] :: Blk b10 81 [(.map (some b4))] :: Mp Value.string (Value.int .i64) b7 ([((⟨#[120]⟩ : ByteArray), 0), ((⟨#[121]⟩ : ByteArray), 1), ((⟨#[122]⟩ : ByteArray), 2)] : List (ByteArray × Int)) :: Mp Value.string (Value.int .i64) b4 ([((⟨#[120]⟩ : ByteArray), 1), ((⟨#[121]⟩ : ByteArray), 2), ((⟨#[122]⟩ : ByteArray), 3)] : List (ByteArray × Int)) :: Blk b1 99 [(.map (some mb))] :: Blk g1 9 (cx [(vs 121), (vs 122)] x1) :: Blk g2 9 (cx [(vs 120)] x2) :: L)) (by simp; omega) (by omega) hm263 rfl
 have st384 : St Z w0 w381 (Blk b380 68 [(sl g349 1 cap350)] :: Row 68 1 (sl g258 2 cap259) 2 [(sl g100 1 cap101), (sl g218 1 cap219)] :: Blk g349 9 (cx [(vs 122)] ex351) :: Blk g287 9 (cx [(vs 122)] ex289) :: Blk g218 9 (cx [(vs 121)] ex220) :: Blk g100 9 (cx [(vs 120)] ex102) :: Blk g37 9 (cx [(vs 120), (vs 121), (vs 122)] ex39) :: Mp Value.string (fun v : Value => v) mb ([((⟨#[122]⟩ : ByteArray), (sl g1 2 d1)), ((⟨#[121]⟩ : ByteArray), (sl g2 1 d2)), ((⟨#[120]⟩ : ByteArray), vn)] : List (ByteArray × Value)) :: Blk b26 124 [(.func (.func 49) #[] #[(pt b10 0), (pt b20 0), (pt b1 0), (pt b13 0), (pt b26 0), (pt b23 0)])] :: Blk b23 74 [(sl g258 2 cap259)] :: Blk b20 68 [(sl g287 0 cap288)] :: Blk b13 81 [(.map (some b7))] :: Blk b10 81 [(.map (some b4))] :: Mp Value.string (Value.int .i64) b7 ([((⟨#[120]⟩ : ByteArray), 0), ((⟨#[121]⟩ : ByteArray), 1), ((⟨#[122]⟩ : ByteArray), 2)] : List (ByteArray × Int)) :: Mp Value.string (Value.int .i64) b4 ([((⟨#[120]⟩ : ByteArray), 1), ((⟨#[121]⟩ : ByteArray), 2), ((⟨#[122]⟩ : ByteArray), 3)] : List (ByteArray × Int)) :: Blk b1 99 [(.map (some mb))] :: Blk g1 9 (cx [(vs 121), (vs 122)] x1) :: Blk g2 9 (cx [(vs 120)] x2) :: L) := St.selT [Row 68 1 (sl g258 2 cap259) 2 [(sl g100 1 cap101), (sl g218 1 cap219)], Blk b380 68 [(sl g349 1 cap350)], Blk g349 9 (cx [(vs 122)] ex351), Blk g287 9 (cx [(vs 122)] ex289), Blk g218 9 (cx [(vs 121)] ex220), Blk g100 9 (cx [(vs 120)] ex102), Blk g37 9 (cx [(vs 120), (vs 121), (vs 122)] ex39), Mp Value.string (fun v : Value => v) mb ([((⟨#[122]⟩ : ByteArray), (sl g1 2 d1)), ((⟨#[121]⟩ : ByteArray), (sl g2 1 d2)), ((⟨#[120]⟩ : ByteArray), vn)] : List (ByteArray × Value)), Blk b26 124 [(.func (.func 49) #[] #[(pt b10 0), (pt b20 0), (pt b1 0), (pt b13 0), (pt b26 0), (pt b23 0)])], Blk b23 74 [(sl g258 2 cap259)], Blk b20 68 [(sl g287 0 cap288)], Blk b13 81 [(.map (some b7))], Blk b10 81 [(.map (some b4))], Mp Value.string (Value.int .i64) b7 ([((⟨#[120]⟩ : ByteArray), 0), ((⟨#[121]⟩ : ByteArray), 1), ((⟨#[122]⟩ : ByteArray), 2)] : List (ByteArray × Int)), Mp Value.string (Value.int .i64) b4 ([((⟨#[120]⟩ : ByteArray), 1), ((⟨#[121]⟩ : ByteArray), 2), ((⟨#[122]⟩ : ByteArray), 3)] : List (ByteArray × Int)), Blk b1 99 [(.map (some mb))], Blk g1 9 (cx [(vs 121), (vs 122)] x1), Blk g2 9 (cx [(vs 120)] x2)] [1, 0, 2, 3, 4, 5, 6, 7, 8, 9, 10, 11, 12, 13, 14, 15, 16, 17] rfl (by decide) st383
 refine W1 (OpT.append st384 1 tu74 ts68 tz68 rfl tb68 (by decide) rfl rfl rfl rfl (by decide) (by decide) (fun v385 w386 st387 hn388 => ?_))
 obtain ⟨g389, cap390, ex391, rfl, hE392, hc393, hm394, st395⟩ := St.openRow (n := 3) (cs := [(sl g100 1 cap101), (sl g218 1 cap219), (sl g349 1 cap350)]) (by decide) st387
 replace st395 : St Z w0 w386 (Blk g389 68 (cx [(sl g100 1 cap101), (sl g218 1 cap219), (sl g349 1 cap350)] ex391) :: Blk g349 9 (cx [(vs 122)] ex351) :: Blk g287 9 (cx [(vs 122)] ex289) :: Blk g218 9 (cx [(vs 121)] ex220) :: Blk g100 9 (cx [(vs 120)] ex102) :: Blk g37 9 (cx [(vs 120), (vs 121), (vs 122)] ex39) :: Mp Value.string (fun v : Value => v) mb ([((⟨#[122]⟩ : ByteArray), (sl g1 2 d1)), ((⟨#[121]⟩ : ByteArray), (sl g2 1 d2)), ((⟨#[120]⟩ : ByteArray), vn)] : List (ByteArray × Value)) :: Blk b26 124 [(.func (.func 49) #[] #[(pt b10 0), (pt b20 0), (pt b1 0), (pt b13 0), (pt b26 0), (pt b23 0)])] :: Blk b23 74 [(sl g258 2 cap259)] :: Blk b20 68 [(sl g287 0 cap288)] :: Blk b13 81 [(.map (some b7))] :: Blk b10 81 [(.map (some b4))] :: Mp Value.string (Value.int .i64) b7 ([((⟨#[120]⟩ : ByteArray), 0), ((⟨#[121]⟩ : ByteArray), 1), ((⟨#[122]⟩ : ByteArray), 2)] : List (ByteArray × Int)) :: Mp Value.string (Value.int .i64) b4 ([((⟨#[120]⟩ : ByteArray), 1), ((⟨#[121]⟩ : ByteArray), 2), ((⟨#[122]⟩ : ByteArray), 3)] : List (ByteArray × Int)) :: Blk b1 99 [(.map (some mb))] :: Blk g1 9 (cx [(vs 121), (vs 122)] x1) :: Blk g2 9 (cx [(vs 120)] x2) :: L) := st395
 refine WL.stepN (OpT.storeS st395 8 (sl g389 3 cap390) rfl ts74 hI379.2.1 rfl rfl rfl rfl (fun w396 st397 => ?_))
 refine Wns ?_
 refine W1 (OpT.move (ii 3) hI379.2.2.1 ?_)
 refine W1 (OpT.assign (ii 3) rfl ?_)
 refine Wnt ?_
 refine WC.ret <| retQ.one (ii 3) rfl ?_
 refine ⟨_, rfl, ?_⟩
 refine WL.nil ?_
 refine blkQ_n ?_
 refine thenQ_n ?_
 refine WC.region ?_
 refine W1 (OpT.iadd .i64 (2) (1) (3) hI274.2.2.2.2.2 rfl (by decide) ?_)
 refine W1 (OpT.move (ii 3) rfl ?_)
 refine WL.nil ?_
 refine unrQ_n ?_
 refine UL.cut (fun r => r 5 = (pt b13 0) ∧ r 7 = (pt b23 0) ∧ r 8 = (pt b26 0) ∧ r 17 = (sl g37 3 cap38) ∧ r 18 = (ii 3) ∧ r 19 = (ii 3)) ⟨hI274.1, hI274.2.1, hI274.2.2.1, hI274.2.2.2.1, hI274.2.2.2.2.1, rfl⟩ ?_
 intro ρ398 hI405
 refine UL.go ?_
 refine Wsr ?_
 refine W1 (OpT.lit (b := (decide ((3 : Int) < (3 : Int)))) (c := false) (by decide) (fun hk => OpT.ilt .i64 (3) (3) hI405.2.2.2.2.2 hI405.2.2.2.2.1 hk) ?_)
 refine Wnt ?_
 refine WC.seq ?_
 refine WC.condF rfl ?_
 refine WC.exit ?_
 refine thenQ_x ?_
 refine unrQ_x ?_
 refine blkQ_hit ?_
 refine thenQ_n ?_
 refine WC.seq ?_
 refine WC.draw 4 (fun jj vv => match jj with | 0 => vv = (.map (some b7)) | 1 => vv = (sl g389 3 cap390) | 2 => vv = (.map (some b7)) | 3 => vv = (sl g389 3 cap390) | _ => True) (fun _ _ => []) st397 fmix (by kernel_rfl) ((obS (obS (obS (obS ob0 ?_) ?_) ?_) ?_)) ?_
 ·intro vals ρ w407 X hd h0 st406
  have e408 : ρ 5 = (pt b13 0) := (h0 5 rfl).trans hI405.1
  refine W1 (OpT.loadS ⟨b13, 0, none⟩ (.map (some b7)) ta81 e408 (st406.cellB (i := 10) rfl rfl) ?_)
  refine WL.nil ?_
  exact oneQ.mk ⟨rfl, st406⟩
 ·intro vals ρ w410 X hd h0 st409
  have e411 : ρ 7 = (pt b23 0) := (h0 7 rfl).trans hI405.2.1
  refine W1 (OpT.loadS ⟨b23, 0, none⟩ (sl g389 3 cap390) ta74 e411 (st409.cellB (i := 8) rfl rfl) ?_)
  refine WL.nil ?_
  exact oneQ.mk ⟨rfl, st409⟩
 ·intro vals ρ w413 X hd h0 st412
  have e414 : ρ 35 = (.map (some b7)) := ((hd 0 rfl).2 35 rfl).trans (hd 0 rfl).1
  refine W1 (OpT.assign (.map (some b7)) e414 ?_)
  refine WL.nil ?_
  exact oneQ.mk ⟨rfl, st412⟩
 ·intro vals ρ w416 X hd h0 st415
  have e417 : ρ 36 = (sl g389 3 cap390) := ((hd 1 rfl).2 36 rfl).trans (hd 1 rfl).1
  refine W1 (OpT.assign (sl g389 3 cap390) e417 ?_)
  refine WL.nil ?_
  exact oneQ.mk ⟨rfl, st415⟩
 intro vals ρ420 w419 hv h0 st418
 replace st418 : St Z w0 w419 (Blk g389 68 (cx [(sl g100 1 cap101), (sl g218 1 cap219), (sl g349 1 cap350)] ex391) :: Blk g349 9 (cx [(vs 122)] ex351) :: Blk g287 9 (cx [(vs 122)] ex289) :: Blk g218 9 (cx [(vs 121)] ex220) :: Blk g100 9 (cx [(vs 120)] ex102) :: Blk g37 9 (cx [(vs 120), (vs 121), (vs 122)] ex39) :: Mp Value.string (fun v : Value => v) mb ([((⟨#[122]⟩ : ByteArray), (sl g1 2 d1)), ((⟨#[121]⟩ : ByteArray), (sl g2 1 d2)), ((⟨#[120]⟩ : ByteArray), vn)] : List (ByteArray × Value)) :: Blk b26 124 [(.func (.func 49) #[] #[(pt b10 0), (pt b20 0), (pt b1 0), (pt b13 0), (pt b26 0), (pt b23 0)])] :: Blk b23 74 [(sl g389 3 cap390)] :: Blk b20 68 [(sl g287 0 cap288)] :: Blk b13 81 [(.map (some b7))] :: Blk b10 81 [(.map (some b4))] :: Mp Value.string (Value.int .i64) b7 ([((⟨#[120]⟩ : ByteArray), 0), ((⟨#[121]⟩ : ByteArray), 1), ((⟨#[122]⟩ : ByteArray), 2)] : List (ByteArray × Int)) :: Mp Value.string (Value.int .i64) b4 ([((⟨#[120]⟩ : ByteArray), 1), ((⟨#[121]⟩ : ByteArray), 2), ((⟨#[122]⟩ : ByteArray), 3)] : List (ByteArray × Int)) :: Blk b1 99 [(.map (some mb))] :: Blk g1 9 (cx [(vs 121), (vs 122)] x1) :: Blk g2 9 (cx [(vs 120)] x2) :: L) := st418
 have e421 : ρ420 2 = (.map (some b7)) := ((hv 2 rfl).2 2 rfl).trans (hv 2 rfl).1
 have e422 : ρ420 3 = (sl g389 3 cap390) := ((hv 3 rfl).2 3 rfl).trans (hv 3 rfl).1
 clear hv h0
 refine Wnt ?_
 refine WC.ret <| retQ.two (.map (some b7)) (sl g389 3 cap390) e421 e422 ?_
 exact ⟨_, rfl, b7, g389, cap390, ex391, g100, cap101, ex102, g218, cap219, ex220, g349, cap350, ex351, rfl, (St.selD 17 [12, 0, 4, 3, 1, 6, 15, 16] rfl rfl (by decide) st418)⟩

end Go.Ped
