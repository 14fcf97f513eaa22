/- The levels of the law's fixed program. -/
import Derived.Test.YtojkakpkmfopbaaF18
import Derived.Test.YtojkakpkmfopbaaF25
set_option linter.unusedVariables false
set_option maxRecDepth 20000
namespace Go.Ped
open Go Go.Eng Go.RowKit Go.Proofs

theorem cal35 : CallOk Try.prog 35 := ⟨⟨Try.f35, Try.func35, rfl, by decide⟩⟩
theorem cal36 : CallOk Try.prog 36 := ⟨⟨Try.f36, Try.func36, rfl, by decide⟩⟩
theorem tf47_0 : fieldB Try.prog 47 0 = some 0 := by kernel_rfl
theorem tf47_1 : fieldB Try.prog 47 1 = some 1 := by kernel_rfl
theorem tu103 : Try.prog.underlying 103 = some (.map 9 21) := by kernel_rfl
theorem tz21 : zeroB Try.prog 21 = some (.int .i32 (0)) := by kernel_rfl
theorem tp77 : placesB Try.prog 77 = some [(0, 1), (1, 1)] := by kernel_rfl
theorem tz77 : zeroB Try.prog 77 = some (.agg #[(.string (⟨#[]⟩ : ByteArray)), (.int .i32 (0))]) := by kernel_rfl
theorem tu70 : Try.prog.underlying 70 = some (.slice 77) := by kernel_rfl
theorem ts77 : sizeB Try.prog 77 = some 2 := by kernel_rfl
theorem tb77 : (Try.prog.info? 77).map (·.bytes) = some 24 := by kernel_rfl
theorem bnd_other : Bnd otherR := by
  refine ⟨?_, by decide⟩
  intro r hr
  simp only [List.mem_cons, List.not_mem_nil, or_false] at hr
  rcases hr with rfl | rfl <;> simp [rulT, ltrT, atmT, expT, expsT, lOf, zExp, rZ, rY]
theorem edges_other : edgesF otherR = [⟨⟨#[122]⟩, ⟨#[121]⟩, 2, 0⟩, ⟨⟨#[122]⟩, ⟨#[122]⟩, 1, 0⟩, ⟨⟨#[121]⟩, ⟨#[120]⟩, 1, 1⟩] := by
  simp [edgesF, edgesR, List.zipIdx, rZ, rY, lOf, isAtm, edgOf, kindOf, aggsB, makesB, wkB]
set_option maxHeartbeats 8000000 in
theorem Levels_other {Z : Nat → Prop} {w0 w : World} {L : List Res} (st : St Z w0 w L) {rb : Nat} (hr : rRul.sl Z w0 (.slice (some ⟨rb, 0, none⟩) 2 2) otherR) : Calls Try.prog 18 #[(.agg #[(sl rb 2 2)])] w (Ret fun r w' => ∃ lg lc lx, r = .tuple #[(sl lg 3 lc), .int .i64 0, .int .i64 0] ∧ St Z w0 w' (Blk lg 77 (cx [(vs 120), (.int .i32 (0)), (vs 121), (.int .i32 (0)), (vs 122), (.int .i32 (1))] lx) :: L)) := by
 refine calls_of_WC (m := 106) (rs := [.tmp 2, .tmp 3, .tmp 4]) Try.func18 rfl rfl rfl rfl ?_
 refine Wsr ?_
 refine W1 (OpT.box st (.agg #[(sl rb 2 2)]) [(sl rb 2 2)] rfl rfl (fun b1 w2 st3 => ?_))
 refine W1 (OpT.assign vn rfl ?_)
 refine W1 (OpT.assign (ii 0) rfl ?_)
 refine W1 (OpT.assign (ii 0) rfl ?_)
 refine Wnt ?_
 refine WC.scope 0 12 rfl ?_
 refine WC.seq ?_
 refine WC.drawV2 3 (fun jj vals vv => match jj with | 0 => vv = (.agg #[(sl rb 2 2)]) | 1 => vv.oneCell' = true ∧ vv.cells = #[vv] | 2 => vv = (.agg #[(sl rb 2 2)]) | _ => True) (fun jj vals vv => match jj with | 1 => [Row 47 4 vv 3 [(vs 122), (vs 121), (.int .i8 (2)), (ii 0), (vs 122), (vs 122), (.int .i8 (1)), (ii 0), (vs 121), (vs 120), (.int .i8 (1)), (ii 1)]] | _ => []) st3 fmix (by kernel_rfl) ((obS (obS (obS ob0 (fun aa bb vv h hf => hf)) (fun aa bb vv h hf => hf)) (fun aa bb vv h hf => hf))) ((obS (obS (obS ob0 (fun aa bb vv h => rfl)) (fun aa bb vv h => rfl)) (fun aa bb vv h => rfl))) ((obS (obS (obS ob0 ?_) ?_) ?_)) ?_
 ·intro vals ρ w5 X hd h0 st4
  have e6 : ρ 1 = (pt b1 0) := (h0 1 rfl).trans rfl
  refine W1 (OpT.loadA ⟨b1, 0, none⟩ 1 [(sl rb 2 2)] ta27 ts27 e6 ((st4.rowB (i := 0) rfl).part 0 1) rfl ?_)
  refine WL.nil ?_
  exact oneQ.mk ⟨rfl, st4⟩
 ·intro vals ρ w8 X hd h0 st7
  have e9 : ρ 19 = (.agg #[(sl rb 2 2)]) := ((hd 0 rfl).2 19 rfl).trans (hd 0 rfl).1
  refine W1 (OpT.callS cal5 [] [] [(.agg #[(sl rb 2 2)])] rfl (ca1 e9) (Edges_spec st7 _ otherR hr bnd_other) ?_)
  rintro v12 w13 ⟨o10, c11, st14⟩
  rw [edges_other] at st14
  replace st14 : St Z w0 w13 (Row 47 4 v12 3 [(vs 122), (vs 121), (.int .i8 (2)), (ii 0), (vs 122), (vs 122), (.int .i8 (1)), (ii 0), (vs 121), (vs 120), (.int .i8 (1)), (ii 1)] :: Blk b1 27 [(sl rb 2 2)] :: (L ++ X)) := st14
  refine WL.nil ?_
  exact oneQ.mk ⟨⟨o10, c11⟩, st14⟩
 ·intro vals ρ w16 X hd h0 st15
  have e17 : ρ 1 = (pt b1 0) := (h0 1 rfl).trans rfl
  refine W1 (OpT.loadA ⟨b1, 0, none⟩ 1 [(sl rb 2 2)] ta27 ts27 e17 ((st15.rowB (i := 0) rfl).part 0 1) rfl ?_)
  refine WL.nil ?_
  exact oneQ.mk ⟨rfl, st15⟩
 intro vals ρ20 w19 hv h0 st18
 replace st18 : St Z w0 w19 (Row 47 4 (vals 1) 3 [(vs 122), (vs 121), (.int .i8 (2)), (ii 0), (vs 122), (vs 122), (.int .i8 (1)), (ii 0), (vs 121), (vs 120), (.int .i8 (1)), (ii 1)] :: Blk b1 27 [(sl rb 2 2)] :: L) := st18
 have e21 : ρ20 1 = (pt b1 0) := (h0 1 rfl).trans rfl
 have e22 : ρ20 19 = (.agg #[(sl rb 2 2)]) := ((hv 0 rfl).2 19 rfl).trans (hv 0 rfl).1
 have o23 : (vals 1).oneCell' = true := (hv 1 rfl).1.1
 have c24 : (vals 1).cells = #[vals 1] := (hv 1 rfl).1.2
 have e25 : ρ20 20 = (vals 1) := ((hv 1 rfl).2 20 rfl)
 have e26 : ρ20 21 = (.agg #[(sl rb 2 2)]) := ((hv 2 rfl).2 21 rfl).trans (hv 2 rfl).1
 have o27 : (vals 1).oneCell' = true := (hv 1 rfl).1.1
 have c28 : (vals 1).cells = #[vals 1] := (hv 1 rfl).1.2
 clear hv h0
 generalize vals 1 = v29 at *
 obtain ⟨g30, cap31, ex32, rfl, hE33, hc34, hm35, st36⟩ := St.openRow (n := 3) (cs := [(vs 122), (vs 121), (.int .i8 (2)), (ii 0), (vs 122), (vs 122), (.int .i8 (1)), (ii 0), (vs 121), (vs 120), (.int .i8 (1)), (ii 1)]) (by decide) (st18 : St Z w0 w19 (Row 47 4 v29 3 [(vs 122), (vs 121), (.int .i8 (2)), (ii 0), (vs 122), (vs 122), (.int .i8 (1)), (ii 0), (vs 121), (vs 120), (.int .i8 (1)), (ii 1)] :: Blk b1 27 [(sl rb 2 2)] :: L))
 replace st36 : St Z w0 w19 (Blk g30 47 (cx [(vs 122), (vs 121), (.int .i8 (2)), (ii 0), (vs 122), (vs 122), (.int .i8 (1)), (ii 0), (vs 121), (vs 120), (.int .i8 (1)), (ii 1)] ex32) :: Blk b1 27 [(sl rb 2 2)] :: L) := st36
 refine W1 (OpT.callS cal35 [] [] [(.agg #[(sl rb 2 2)])] rfl (ca1 e26) (draw_other st36 hr) ?_)
 rintro v44 w45 ⟨mb37, g38, cap39, ex40, g41, cap42, ex43, rfl, st46⟩
 refine W1 (OpT.assign (sl g30 3 cap31) e25 ?_)
 refine W1 (OpT.assign (.map (some mb37)) rfl ?_)
 refine Wns ?_
 refine W1 (OpT.move (.map (some mb37)) rfl ?_)
 refine W1 (OpT.callS cal36 [] [] [(.map (some mb37))] rfl (ca1 rfl) (parts_other st46) ?_)
 rintro v60 w61 ⟨ib47, og48, oc49, ox50, p151, c152, e153, p254, c255, e256, p357, c358, e359, rfl, st62⟩
 refine W1 (OpT.move (.tuple #[(.map (some ib47)), (sl og48 3 oc49)]) rfl ?_)
 refine W1 (OpT.extract [(.map (some ib47)), (sl og48 3 oc49)] (.map (some ib47)) rfl rfl ?_)
 refine W1 (OpT.extract [(.map (some ib47)), (sl og48 3 oc49)] (sl og48 3 oc49) rfl rfl ?_)
 refine W1 (OpT.assign (.map (some ib47)) rfl ?_)
 refine W1 (OpT.assign (sl og48 3 oc49) rfl ?_)
 refine Wnt ?_
 refine WC.seq ?_
 refine Wsr ?_
 refine W1 (OpT.move (sl g30 3 cap31) rfl ?_)
 refine W1 (OpT.litV (v := (ni 3)) (v' := (ii 3)) rfl (fun hk => OpT.lenS _ 3 cap31 rfl tu24 rfl hk) ?_)
 refine W1 (OpT.move (ii 0) rfl ?_)
 refine Wnt ?_
 refine WC.block ?_
 refine WC.unroll 12 ?_
 refine UL.cut (fun r => r 1 = (pt b1 0) ∧ r 5 = (sl g30 3 cap31) ∧ r 6 = (.map (some mb37)) ∧ r 7 = (.map (some ib47)) ∧ r 19 = (.agg #[(sl rb 2 2)]) ∧ r 20 = (sl g30 3 cap31) ∧ r 21 = (.agg #[(sl rb 2 2)]) ∧ r 22 = (.map (some mb37)) ∧ r 23 = (.tuple #[(.map (some ib47)), (sl og48 3 oc49)]) ∧ r 24 = (.map (some mb37)) ∧ r 25 = (.tuple #[(.map (some ib47)), (sl og48 3 oc49)]) ∧ r 26 = (.map (some ib47)) ∧ r 27 = (sl og48 3 oc49) ∧ r 28 = (sl g30 3 cap31) ∧ r 29 = (ii 3) ∧ r 30 = (ii 0)) ⟨e21, rfl, rfl, rfl, e22, e25, e26, rfl, rfl, rfl, rfl, rfl, rfl, rfl, rfl, rfl⟩ ?_
 intro ρ63 hI80
 refine UL.go ?_
 refine Wsr ?_
 refine W1 (OpT.lit (b := (decide ((0 : Int) < (3 : Int)))) (c := true) (by decide) (fun hk => OpT.ilt .i64 (0) (3) hI80.2.2.2.2.2.2.2.2.2.2.2.2.2.2.2 hI80.2.2.2.2.2.2.2.2.2.2.2.2.2.2.1 hk) ?_)
 refine Wnt ?_
 refine WC.seq ?_
 refine WC.condT rfl ?_
 refine WC.skip ?_
 refine thenQ_n ?_
 refine WC.seq ?_
 refine WC.block ?_
 refine Wsr ?_
 refine W1 (OpT.idx 4 ⟨g30, 0, none⟩ ⟨g30, 0, none⟩ 3 cap31 .i64 0 tu24 ts47 hI80.2.2.2.2.2.2.2.2.2.2.2.2.2.1 hI80.2.2.2.2.2.2.2.2.2.2.2.2.2.2.2 (by decide) (by decide) rfl ?_)
 refine W1 (OpT.loadA ⟨g30, 0, none⟩ 4 [(vs 122), (vs 121), (.int .i8 (2)), (ii 0)] ta47 ts47 rfl ((st62.rowB (i := 8) rfl).part 0 4) rfl ?_)
 refine W1 (OpT.alloc st62 (.agg #[ve, ve, (.int .i8 (0)), (ii 0)]) [ve, ve, (.int .i8 (0)), (ii 0)] tz47 rfl (fun b81 w82 st83 => ?_))
 refine WL.stepN (OpT.storeA st83 0 4 [(vs 122), (vs 121), (.int .i8 (2)), (ii 0)] rfl ts47 rfl rfl rfl rfl rfl (fun w84 st85 => ?_))
 refine Wnt ?_
 refine WC.seq ?_
 refine Wsr ?_
 refine W1 (OpT.field 2 ⟨b81, 0, none⟩ ⟨b81, 2, none⟩ tf47_2 rfl rfl ?_)
 refine W1 (OpT.loadS ⟨b81, 2, none⟩ (.int .i8 (2)) ta45 rfl (st85.cellB (i := 0) rfl rfl) ?_)
 refine W1 (OpT.lit (b := (decide ((2 : Int) = (1 : Int)))) (c := false) (by decide) (fun hk => OpT.ieq .i8 (2) (1) rfl rfl hk) ?_)
 refine W1 (OpT.move (.bool false) rfl ?_)
 refine W2 (dj := 37) rfl (OpT.move (.map (some ib47)) hI80.2.2.2.1 ?_)
 refine W2 (dj := 37) rfl (OpT.field 0 ⟨b81, 0, none⟩ ⟨b81, 0, none⟩ tf47_0 rfl rfl ?_)
 refine W2 (dj := 37) rfl (OpT.loadS ⟨b81, 0, none⟩ (vs 122) ta9 rfl (st85.cellB (i := 0) rfl rfl) ?_)
 refine W2 (dj := 37) rfl (OpT.litV (v := (.int .i64 (((mget ([((⟨#[120]⟩ : ByteArray), 0), ((⟨#[121]⟩ : ByteArray), 1), ((⟨#[122]⟩ : ByteArray), 2)] : List (ByteArray × Int)) (⟨#[122]⟩ : ByteArray)).getD 0)))) (v' := (ii 2)) (by simp [mget_cons, mget_nil]) (fun hk => OpT.lookupI st85 1 rfl ko9 tu81 tz3 ((⟨#[122]⟩ : ByteArray)) rfl rfl hk) ?_)
 refine W2 (dj := 37) rfl (OpT.move (.map (some ib47)) hI80.2.2.2.1 ?_)
 refine W2 (dj := 37) rfl (OpT.field 1 ⟨b81, 0, none⟩ ⟨b81, 1, none⟩ tf47_1 rfl rfl ?_)
 refine W2 (dj := 37) rfl (OpT.loadS ⟨b81, 1, none⟩ (vs 121) ta9 rfl (st85.cellB (i := 0) rfl rfl) ?_)
 refine W2 (dj := 37) rfl (OpT.litV (v := (.int .i64 (((mget ([((⟨#[120]⟩ : ByteArray), 0), ((⟨#[121]⟩ : ByteArray), 1), ((⟨#[122]⟩ : ByteArray), 2)] : List (ByteArray × Int)) (⟨#[121]⟩ : ByteArray)).getD 0)))) (v' := (ii 1)) (by simp [mget_cons, mget_nil]) (fun hk => OpT.lookupI st85 1 rfl ko9 tu81 tz3 ((⟨#[121]⟩ : ByteArray)) rfl rfl hk) ?_)
 refine W2 (dj := 37) rfl (OpT.lit (b := (decide ((2 : Int) ≠ (1 : Int)))) (c := true) (by decide) (fun hk => OpT.ine .i64 (2) (1) rfl rfl hk) ?_)
 refine W1 (OpT.pickF (.bool true) rfl rfl ?_)
 refine Wnt ?_
 refine WC.condT rfl ?_
 refine WC.exit ?_
 refine thenQ_x ?_
 refine blkQ_hit ?_
 refine thenQ_n ?_
 refine WC.region ?_
 refine W1 (OpT.iadd .i64 (0) (1) (1) hI80.2.2.2.2.2.2.2.2.2.2.2.2.2.2.2 rfl (by decide) ?_)
 refine W1 (OpT.move (ii 1) rfl ?_)
 refine WL.nil ?_
 refine unrQ_n ?_
 refine UL.cut (fun r => r 1 = (pt b1 0) ∧ r 5 = (sl g30 3 cap31) ∧ r 6 = (.map (some mb37)) ∧ r 7 = (.map (some ib47)) ∧ r 10 = (pt b81 0) ∧ r 19 = (.agg #[(sl rb 2 2)]) ∧ r 20 = (sl g30 3 cap31) ∧ r 21 = (.agg #[(sl rb 2 2)]) ∧ r 22 = (.map (some mb37)) ∧ r 23 = (.tuple #[(.map (some ib47)), (sl og48 3 oc49)]) ∧ r 24 = (.map (some mb37)) ∧ r 25 = (.tuple #[(.map (some ib47)), (sl og48 3 oc49)]) ∧ r 26 = (.map (some ib47)) ∧ r 27 = (sl og48 3 oc49) ∧ r 28 = (sl g30 3 cap31) ∧ r 29 = (ii 3) ∧ r 30 = (ii 1) ∧ r 32 = (pt g30 0) ∧ r 33 = (.agg #[(vs 122), (vs 121), (.int .i8 (2)), (ii 0)]) ∧ r 34 = (pt b81 2) ∧ r 35 = (.int .i8 (2)) ∧ r 36 = (.bool false) ∧ r 37 = (.bool false) ∧ r 38 = (.map (some ib47)) ∧ r 39 = (pt b81 0) ∧ r 40 = (vs 122) ∧ r 41 = (ii 2) ∧ r 42 = (.map (some ib47)) ∧ r 43 = (pt b81 1) ∧ r 44 = (vs 121) ∧ r 45 = (ii 1) ∧ r 46 = (.bool true) ∧ r 47 = (.bool true) ∧ r 60 = (ii 1)) ⟨hI80.1, hI80.2.1, hI80.2.2.1, hI80.2.2.2.1, rfl, hI80.2.2.2.2.1, hI80.2.2.2.2.2.1, hI80.2.2.2.2.2.2.1, hI80.2.2.2.2.2.2.2.1, hI80.2.2.2.2.2.2.2.2.1, hI80.2.2.2.2.2.2.2.2.2.1, hI80.2.2.2.2.2.2.2.2.2.2.1, hI80.2.2.2.2.2.2.2.2.2.2.2.1, hI80.2.2.2.2.2.2.2.2.2.2.2.2.1, hI80.2.2.2.2.2.2.2.2.2.2.2.2.2.1, hI80.2.2.2.2.2.2.2.2.2.2.2.2.2.2.1, rfl, rfl, rfl, rfl, rfl, rfl, rfl, rfl, rfl, rfl, rfl, rfl, rfl, rfl, rfl, rfl, rfl, rfl⟩ ?_
 intro ρ86 hI121
 refine UL.go ?_
 refine Wsr ?_
 refine W1 (OpT.lit (b := (decide ((1 : Int) < (3 : Int)))) (c := true) (by decide) (fun hk => OpT.ilt .i64 (1) (3) hI121.2.2.2.2.2.2.2.2.2.2.2.2.2.2.2.2.1 hI121.2.2.2.2.2.2.2.2.2.2.2.2.2.2.2.1 hk) ?_)
 refine Wnt ?_
 refine WC.seq ?_
 refine WC.condT rfl ?_
 refine WC.skip ?_
 refine thenQ_n ?_
 refine WC.seq ?_
 refine WC.block ?_
 refine Wsr ?_
 refine W1 (OpT.idx 4 ⟨g30, 0, none⟩ ⟨g30, 4, none⟩ 3 cap31 .i64 1 tu24 ts47 hI121.2.2.2.2.2.2.2.2.2.2.2.2.2.2.1 hI121.2.2.2.2.2.2.2.2.2.2.2.2.2.2.2.2.1 (by decide) (by decide) rfl ?_)
 refine W1 (OpT.loadA ⟨g30, 4, none⟩ 4 [(vs 122), (vs 122), (.int .i8 (1)), (ii 0)] ta47 ts47 rfl ((st85.rowB (i := 9) rfl).part 4 4) rfl ?_)
 refine W1 (OpT.alloc st85 (.agg #[ve, ve, (.int .i8 (0)), (ii 0)]) [ve, ve, (.int .i8 (0)), (ii 0)] tz47 rfl (fun b122 w123 st124 => ?_))
 refine WL.stepN (OpT.storeA st124 0 4 [(vs 122), (vs 122), (.int .i8 (1)), (ii 0)] rfl ts47 rfl rfl rfl rfl rfl (fun w125 st126 => ?_))
 refine Wnt ?_
 refine WC.seq ?_
 refine Wsr ?_
 refine W1 (OpT.field 2 ⟨b122, 0, none⟩ ⟨b122, 2, none⟩ tf47_2 rfl rfl ?_)
 refine W1 (OpT.loadS ⟨b122, 2, none⟩ (.int .i8 (1)) ta45 rfl (st126.cellB (i := 0) rfl rfl) ?_)
 refine W1 (OpT.lit (b := (decide ((1 : Int) = (1 : Int)))) (c := true) (by decide) (fun hk => OpT.ieq .i8 (1) (1) rfl rfl hk) ?_)
 refine W1 (OpT.move (.bool true) rfl ?_)
 refine WL.pass (dj := 37) (c := true) rfl rfl rfl rfl rfl ?_
 refine WL.pass (dj := 37) (c := true) rfl rfl rfl rfl rfl ?_
 refine WL.pass (dj := 37) (c := true) rfl rfl rfl rfl rfl ?_
 refine WL.pass (dj := 37) (c := true) rfl rfl rfl rfl rfl ?_
 refine WL.pass (dj := 37) (c := true) rfl rfl rfl rfl rfl ?_
 refine WL.pass (dj := 37) (c := true) rfl rfl rfl rfl rfl ?_
 refine WL.pass (dj := 37) (c := true) rfl rfl rfl rfl rfl ?_
 refine WL.pass (dj := 37) (c := true) rfl rfl rfl rfl rfl ?_
 refine WL.pass (dj := 37) (c := true) rfl rfl rfl rfl rfl ?_
 refine W1 (OpT.pickT (.bool true) rfl rfl ?_)
 refine Wnt ?_
 refine WC.condT rfl ?_
 refine WC.exit ?_
 refine thenQ_x ?_
 refine blkQ_hit ?_
 refine thenQ_n ?_
 refine WC.region ?_
 refine W1 (OpT.iadd .i64 (1) (1) (2) hI121.2.2.2.2.2.2.2.2.2.2.2.2.2.2.2.2.1 rfl (by decide) ?_)
 refine W1 (OpT.move (ii 2) rfl ?_)
 refine WL.nil ?_
 refine unrQ_n ?_
 refine UL.cut (fun r => r 1 = (pt b1 0) ∧ r 5 = (sl g30 3 cap31) ∧ r 6 = (.map (some mb37)) ∧ r 7 = (.map (some ib47)) ∧ r 10 = (pt b122 0) ∧ r 19 = (.agg #[(sl rb 2 2)]) ∧ r 20 = (sl g30 3 cap31) ∧ r 21 = (.agg #[(sl rb 2 2)]) ∧ r 22 = (.map (some mb37)) ∧ r 23 = (.tuple #[(.map (some ib47)), (sl og48 3 oc49)]) ∧ r 24 = (.map (some mb37)) ∧ r 25 = (.tuple #[(.map (some ib47)), (sl og48 3 oc49)]) ∧ r 26 = (.map (some ib47)) ∧ r 27 = (sl og48 3 oc49) ∧ r 28 = (sl g30 3 cap31) ∧ r 29 = (ii 3) ∧ r 30 = (ii 2) ∧ r 32 = (pt g30 4) ∧ r 33 = (.agg #[(vs 122), (vs 122), (.int .i8 (1)), (ii 0)]) ∧ r 34 = (pt b122 2) ∧ r 35 = (.int .i8 (1)) ∧ r 36 = (.bool true) ∧ r 37 = (.bool true) ∧ r 47 = (.bool true) ∧ r 60 = (ii 2)) ⟨hI121.1, hI121.2.1, hI121.2.2.1, hI121.2.2.2.1, rfl, hI121.2.2.2.2.2.1, hI121.2.2.2.2.2.2.1, hI121.2.2.2.2.2.2.2.1, hI121.2.2.2.2.2.2.2.2.1, hI121.2.2.2.2.2.2.2.2.2.1, hI121.2.2.2.2.2.2.2.2.2.2.1, hI121.2.2.2.2.2.2.2.2.2.2.2.1, hI121.2.2.2.2.2.2.2.2.2.2.2.2.1, hI121.2.2.2.2.2.2.2.2.2.2.2.2.2.1, hI121.2.2.2.2.2.2.2.2.2.2.2.2.2.2.1, hI121.2.2.2.2.2.2.2.2.2.2.2.2.2.2.2.1, rfl, rfl, rfl, rfl, rfl, rfl, rfl, rfl, rfl⟩ ?_
 have st153 : St Z w0 w125 (Blk b122 47 [(vs 122), (vs 122), (.int .i8 (1)), (ii 0)] :: Mp Value.string (Value.int .i64) ib47 ([((⟨#[120]⟩ : ByteArray), 0), ((⟨#[121]⟩ : ByteArray), 1), ((⟨#[122]⟩ : ByteArray), 2)] : List (ByteArray × Int)) :: Blk og48 68 (cx [(sl p151 1 c152), (sl p254 1 c255), (sl p357 1 c358)] ox50) :: Blk p151 9 (cx [(vs 120)] e153) :: Blk p254 9 (cx [(vs 121)] e256) :: Blk p357 9 (cx [(vs 122)] e359) :: Mp Value.string (fun v : Value => v) mb37 ([((⟨#[122]⟩ : ByteArray), (sl g38 2 cap39)), ((⟨#[121]⟩ : ByteArray), (sl g41 1 cap42)), ((⟨#[120]⟩ : ByteArray), vn)] : List (ByteArray × Value)) :: Blk g38 9 (cx [(vs 121), (vs 122)] ex40) :: Blk g41 9 (cx [(vs 120)] ex43) :: Blk g30 47 (cx [(vs 122), (vs 121), (.int .i8 (2)), (ii 0), (vs 122), (vs 122), (.int .i8 (1)), (ii 0), (vs 121), (vs 120), (.int .i8 (1)), (ii 1)] ex32) :: Blk b1 27 [(sl rb 2 2)] :: L) := (St.selD 12 [0, 2, 3, 4, 5, 6, 7, 8, 9, 10, 11] rfl rfl (by decide) st126)
 intro ρ127 hI154
 refine UL.go ?_
 refine Wsr ?_
 refine W1 (OpT.lit (b := (decide ((2 : Int) < (3 : Int)))) (c := true) (by decide) (fun hk => OpT.ilt .i64 (2) (3) hI154.2.2.2.2.2.2.2.2.2.2.2.2.2.2.2.2.1 hI154.2.2.2.2.2.2.2.2.2.2.2.2.2.2.2.1 hk) ?_)
 refine Wnt ?_
 refine WC.seq ?_
 refine WC.condT rfl ?_
 refine WC.skip ?_
 refine thenQ_n ?_
 refine WC.seq ?_
 refine WC.block ?_
 refine Wsr ?_
 refine W1 (OpT.idx 4 ⟨g30, 0, none⟩ ⟨g30, 8, none⟩ 3 cap31 .i64 2 tu24 ts47 hI154.2.2.2.2.2.2.2.2.2.2.2.2.2.2.1 hI154.2.2.2.2.2.2.2.2.2.2.2.2.2.2.2.2.1 (by decide) (by decide) rfl ?_)
 refine W1 (OpT.loadA ⟨g30, 8, none⟩ 4 [(vs 121), (vs 120), (.int .i8 (1)), (ii 1)] ta47 ts47 rfl ((st153.rowB (i := 9) rfl).part 8 4) rfl ?_)
 refine W1 (OpT.alloc st153 (.agg #[ve, ve, (.int .i8 (0)), (ii 0)]) [ve, ve, (.int .i8 (0)), (ii 0)] tz47 rfl (fun b155 w156 st157 => ?_))
 refine WL.stepN (OpT.storeA st157 0 4 [(vs 121), (vs 120), (.int .i8 (1)), (ii 1)] rfl ts47 rfl rfl rfl rfl rfl (fun w158 st159 => ?_))
 refine Wnt ?_
 refine WC.seq ?_
 refine Wsr ?_
 refine W1 (OpT.field 2 ⟨b155, 0, none⟩ ⟨b155, 2, none⟩ tf47_2 rfl rfl ?_)
 refine W1 (OpT.loadS ⟨b155, 2, none⟩ (.int .i8 (1)) ta45 rfl (st159.cellB (i := 0) rfl rfl) ?_)
 refine W1 (OpT.lit (b := (decide ((1 : Int) = (1 : Int)))) (c := true) (by decide) (fun hk => OpT.ieq .i8 (1) (1) rfl rfl hk) ?_)
 refine W1 (OpT.move (.bool true) rfl ?_)
 refine WL.pass (dj := 37) (c := true) rfl rfl rfl rfl rfl ?_
 refine WL.pass (dj := 37) (c := true) rfl rfl rfl rfl rfl ?_
 refine WL.pass (dj := 37) (c := true) rfl rfl rfl rfl rfl ?_
 refine WL.pass (dj := 37) (c := true) rfl rfl rfl rfl rfl ?_
 refine WL.pass (dj := 37) (c := true) rfl rfl rfl rfl rfl ?_
 refine WL.pass (dj := 37) (c := true) rfl rfl rfl rfl rfl ?_
 refine WL.pass (dj := 37) (c := true) rfl rfl rfl rfl rfl ?_
 refine WL.pass (dj := 37) (c := true) rfl rfl rfl rfl rfl ?_
 refine WL.pass (dj := 37) (c := true) rfl rfl rfl rfl rfl ?_
 refine W1 (OpT.pickT (.bool true) rfl rfl ?_)
 refine Wnt ?_
 refine WC.condT rfl ?_
 refine WC.exit ?_
 refine thenQ_x ?_
 refine blkQ_hit ?_
 refine thenQ_n ?_
 refine WC.region ?_
 refine W1 (OpT.iadd .i64 (2) (1) (3) hI154.2.2.2.2.2.2.2.2.2.2.2.2.2.2.2.2.1 rfl (by decide) ?_)
 refine W1 (OpT.move (ii 3) rfl ?_)
 refine WL.nil ?_
 refine unrQ_n ?_
 refine UL.cut (fun r => r 1 = (pt b1 0) ∧ r 5 = (sl g30 3 cap31) ∧ r 6 = (.map (some mb37)) ∧ r 7 = (.map (some ib47)) ∧ r 10 = (pt b155 0) ∧ r 19 = (.agg #[(sl rb 2 2)]) ∧ r 20 = (sl g30 3 cap31) ∧ r 21 = (.agg #[(sl rb 2 2)]) ∧ r 22 = (.map (some mb37)) ∧ r 23 = (.tuple #[(.map (some ib47)), (sl og48 3 oc49)]) ∧ r 24 = (.map (some mb37)) ∧ r 25 = (.tuple #[(.map (some ib47)), (sl og48 3 oc49)]) ∧ r 26 = (.map (some ib47)) ∧ r 27 = (sl og48 3 oc49) ∧ r 28 = (sl g30 3 cap31) ∧ r 29 = (ii 3) ∧ r 30 = (ii 3) ∧ r 32 = (pt g30 8) ∧ r 33 = (.agg #[(vs 121), (vs 120), (.int .i8 (1)), (ii 1)]) ∧ r 34 = (pt b155 2) ∧ r 35 = (.int .i8 (1)) ∧ r 36 = (.bool true) ∧ r 37 = (.bool true) ∧ r 47 = (.bool true) ∧ r 60 = (ii 3)) ⟨hI154.1, hI154.2.1, hI154.2.2.1, hI154.2.2.2.1, rfl, hI154.2.2.2.2.2.1, hI154.2.2.2.2.2.2.1, hI154.2.2.2.2.2.2.2.1, hI154.2.2.2.2.2.2.2.2.1, hI154.2.2.2.2.2.2.2.2.2.1, hI154.2.2.2.2.2.2.2.2.2.2.1, hI154.2.2.2.2.2.2.2.2.2.2.2.1, hI154.2.2.2.2.2.2.2.2.2.2.2.2.1, hI154.2.2.2.2.2.2.2.2.2.2.2.2.2.1, hI154.2.2.2.2.2.2.2.2.2.2.2.2.2.2.1, hI154.2.2.2.2.2.2.2.2.2.2.2.2.2.2.2.1, rfl, rfl, rfl, rfl, rfl, rfl, rfl, rfl, rfl⟩ ?_
 have st186 : St Z w0 w158 (Blk b155 47 [(vs 121), (vs 120), (.int .i8 (1)), (ii 1)] :: Mp Value.string (Value.int .i64) ib47 ([((⟨#[120]⟩ : ByteArray), 0), ((⟨#[121]⟩ : ByteArray), 1), ((⟨#[122]⟩ : ByteArray), 2)] : List (ByteArray × Int)) :: Blk og48 68 (cx [(sl p151 1 c152), (sl p254 1 c255), (sl p357 1 c358)] ox50) :: Blk p151 9 (cx [(vs 120)] e153) :: Blk p254 9 (cx [(vs 121)] e256) :: Blk p357 9 (cx [(vs 122)] e359) :: Mp Value.string (fun v : Value => v) mb37 ([((⟨#[122]⟩ : ByteArray), (sl g38 2 cap39)), ((⟨#[121]⟩ : ByteArray), (sl g41 1 cap42)), ((⟨#[120]⟩ : ByteArray), vn)] : List (ByteArray × Value)) :: Blk g38 9 (cx [(vs 121), (vs 122)] ex40) :: Blk g41 9 (cx [(vs 120)] ex43) :: Blk g30 47 (cx [(vs 122), (vs 121), (.int .i8 (2)), (ii 0), (vs 122), (vs 122), (.int .i8 (1)), (ii 0), (vs 121), (vs 120), (.int .i8 (1)), (ii 1)] ex32) :: Blk b1 27 [(sl rb 2 2)] :: L) := (St.selD 12 [0, 2, 3, 4, 5, 6, 7, 8, 9, 10, 11] rfl rfl (by decide) st159)
 intro ρ160 hI187
 refine UL.go ?_
 refine Wsr ?_
 refine W1 (OpT.lit (b := (decide ((3 : Int) < (3 : Int)))) (c := false) (by decide) (fun hk => OpT.ilt .i64 (3) (3) hI187.2.2.2.2.2.2.2.2.2.2.2.2.2.2.2.2.1 hI187.2.2.2.2.2.2.2.2.2.2.2.2.2.2.2.1 hk) ?_)
 refine Wnt ?_
 refine WC.seq ?_
 refine WC.condF rfl ?_
 refine WC.exit ?_
 refine thenQ_x ?_
 refine unrQ_x ?_
 refine blkQ_hit ?_
 refine thenQ_n ?_
 refine Wsr ?_
 refine W1 (OpT.makeMap Value.string (Value.int .i32) st186 (fun b188 w189 st190 => ?_))
 refine W1 (OpT.assign (.map (some b188)) rfl ?_)
 refine Wns ?_
 refine W1 (OpT.assign (.bool false) rfl ?_)
 refine Wnt ?_
 refine WC.seq ?_
 refine WC.label ?_
 refine thenQ_n ?_
 refine Wsr ?_
 refine W1 (OpT.assign (.bool false) rfl ?_)
 refine Wnt ?_
 refine WC.seq ?_
 refine Wsr ?_
 refine W1 (OpT.move (sl g30 3 cap31) hI187.2.1 ?_)
 refine W1 (OpT.litV (v := (ni 3)) (v' := (ii 3)) rfl (fun hk => OpT.lenS _ 3 cap31 rfl tu24 rfl hk) ?_)
 refine W1 (OpT.move (ii 0) rfl ?_)
 refine Wnt ?_
 refine WC.block ?_
 refine WC.unroll 12 ?_
 refine UL.cut (fun r => r 1 = (pt b1 0) ∧ r 5 = (sl g30 3 cap31) ∧ r 6 = (.map (some mb37)) ∧ r 7 = (.map (some ib47)) ∧ r 10 = (pt b155 0) ∧ r 11 = (.map (some b188)) ∧ r 12 = (.bool false) ∧ r 19 = (.agg #[(sl rb 2 2)]) ∧ r 20 = (sl g30 3 cap31) ∧ r 21 = (.agg #[(sl rb 2 2)]) ∧ r 22 = (.map (some mb37)) ∧ r 23 = (.tuple #[(.map (some ib47)), (sl og48 3 oc49)]) ∧ r 24 = (.map (some mb37)) ∧ r 25 = (.tuple #[(.map (some ib47)), (sl og48 3 oc49)]) ∧ r 26 = (.map (some ib47)) ∧ r 27 = (sl og48 3 oc49) ∧ r 28 = (sl g30 3 cap31) ∧ r 29 = (ii 3) ∧ r 30 = (ii 3) ∧ r 31 = (.bool false) ∧ r 32 = (pt g30 8) ∧ r 33 = (.agg #[(vs 121), (vs 120), (.int .i8 (1)), (ii 1)]) ∧ r 34 = (pt b155 2) ∧ r 35 = (.int .i8 (1)) ∧ r 36 = (.bool true) ∧ r 37 = (.bool true) ∧ r 47 = (.bool true) ∧ r 60 = (ii 3) ∧ r 61 = (.map (some b188)) ∧ r 62 = (sl g30 3 cap31) ∧ r 63 = (ii 3) ∧ r 64 = (ii 0)) ⟨hI187.1, hI187.2.1, hI187.2.2.1, hI187.2.2.2.1, hI187.2.2.2.2.1, rfl, rfl, hI187.2.2.2.2.2.1, hI187.2.2.2.2.2.2.1, hI187.2.2.2.2.2.2.2.1, hI187.2.2.2.2.2.2.2.2.1, hI187.2.2.2.2.2.2.2.2.2.1, hI187.2.2.2.2.2.2.2.2.2.2.1, hI187.2.2.2.2.2.2.2.2.2.2.2.1, hI187.2.2.2.2.2.2.2.2.2.2.2.2.1, hI187.2.2.2.2.2.2.2.2.2.2.2.2.2.1, hI187.2.2.2.2.2.2.2.2.2.2.2.2.2.2.1, hI187.2.2.2.2.2.2.2.2.2.2.2.2.2.2.2.1, hI187.2.2.2.2.2.2.2.2.2.2.2.2.2.2.2.2.1, rfl, hI187.2.2.2.2.2.2.2.2.2.2.2.2.2.2.2.2.2.1, hI187.2.2.2.2.2.2.2.2.2.2.2.2.2.2.2.2.2.2.1, hI187.2.2.2.2.2.2.2.2.2.2.2.2.2.2.2.2.2.2.2.1, hI187.2.2.2.2.2.2.2.2.2.2.2.2.2.2.2.2.2.2.2.2.1, hI187.2.2.2.2.2.2.2.2.2.2.2.2.2.2.2.2.2.2.2.2.2.1, hI187.2.2.2.2.2.2.2.2.2.2.2.2.2.2.2.2.2.2.2.2.2.2.1, hI187.2.2.2.2.2.2.2.2.2.2.2.2.2.2.2.2.2.2.2.2.2.2.2.1, hI187.2.2.2.2.2.2.2.2.2.2.2.2.2.2.2.2.2.2.2.2.2.2.2.2, rfl, rfl, rfl, rfl⟩ ?_
 intro ρ191 hI224
 refine UL.go ?_
 refine Wsr ?_
 refine W1 (OpT.lit (b := (decide ((0 : Int) < (3 : Int)))) (c := true) (by decide) (fun hk => OpT.ilt .i64 (0) (3) hI224.2.2.2.2.2.2.2.2.2.2.2.2.2.2.2.2.2.2.2.2.2.2.2.2.2.2.2.2.2.2.2 hI224.2.2.2.2.2.2.2.2.2.2.2.2.2.2.2.2.2.2.2.2.2.2.2.2.2.2.2.2.2.2.1 hk) ?_)
 refine Wnt ?_
 refine WC.seq ?_
 refine WC.condT rfl ?_
 refine WC.skip ?_
 refine thenQ_n ?_
 refine WC.seq ?_
 refine WC.block ?_
 refine Wsr ?_
 refine W1 (OpT.idx 4 ⟨g30, 0, none⟩ ⟨g30, 0, none⟩ 3 cap31 .i64 0 tu24 ts47 hI224.2.2.2.2.2.2.2.2.2.2.2.2.2.2.2.2.2.2.2.2.2.2.2.2.2.2.2.2.2.1 hI224.2.2.2.2.2.2.2.2.2.2.2.2.2.2.2.2.2.2.2.2.2.2.2.2.2.2.2.2.2.2.2 (by decide) (by decide) rfl ?_)
 refine W1 (OpT.loadA ⟨g30, 0, none⟩ 4 [(vs 122), (vs 121), (.int .i8 (2)), (ii 0)] ta47 ts47 rfl ((st190.rowB (i := 10) rfl).part 0 4) rfl ?_)
 refine W1 (OpT.alloc st190 (.agg #[ve, ve, (.int .i8 (0)), (ii 0)]) [ve, ve, (.int .i8 (0)), (ii 0)] tz47 rfl (fun b225 w226 st227 => ?_))
 refine WL.stepN (OpT.storeA st227 0 4 [(vs 122), (vs 121), (.int .i8 (2)), (ii 0)] rfl ts47 rfl rfl rfl rfl rfl (fun w228 st229 => ?_))
 refine Wns ?_
 refine W1 (OpT.move (.map (some b188)) hI224.2.2.2.2.2.1 ?_)
 refine W1 (OpT.field 1 ⟨b225, 0, none⟩ ⟨b225, 1, none⟩ tf47_1 rfl rfl ?_)
 refine W1 (OpT.loadS ⟨b225, 1, none⟩ (vs 121) ta9 rfl (st229.cellB (i := 0) rfl rfl) ?_)
 refine W1 (OpT.litV (v := (.int .i32 (((mget ([] : List (ByteArray × Int)) (⟨#[121]⟩ : ByteArray)).getD 0)))) (v' := (.int .i32 (0))) (by simp [mget_cons, mget_nil]) (fun hk => OpT.lookupI st229 1 rfl ko9 tu103 tz21 ((⟨#[121]⟩ : ByteArray)) rfl rfl hk) ?_)
 refine W1 (OpT.assign (.int .i32 (0)) rfl ?_)
 refine Wnt ?_
 refine WC.seq ?_
 refine Wsr ?_
 refine W1 (OpT.field 2 ⟨b225, 0, none⟩ ⟨b225, 2, none⟩ tf47_2 rfl rfl ?_)
 refine W1 (OpT.loadS ⟨b225, 2, none⟩ (.int .i8 (2)) ta45 rfl (st229.cellB (i := 0) rfl rfl) ?_)
 refine W1 (OpT.lit (b := (decide ((2 : Int) ≠ (1 : Int)))) (c := true) (by decide) (fun hk => OpT.ine .i8 (2) (1) rfl rfl hk) ?_)
 refine Wnt ?_
 refine WC.condT rfl ?_
 refine WC.region ?_
 refine W1 (OpT.move (.int .i32 (0)) rfl ?_)
 refine W1 (OpT.iadd .i32 (0) (1) (1) rfl rfl (by decide) ?_)
 refine W1 (OpT.assign (.int .i32 (1)) rfl ?_)
 refine Wns ?_
 refine W1 (OpT.move (.map (some b188)) hI224.2.2.2.2.2.1 ?_)
 refine W1 (OpT.field 0 ⟨b225, 0, none⟩ ⟨b225, 0, none⟩ tf47_0 rfl rfl ?_)
 refine W1 (OpT.loadS ⟨b225, 0, none⟩ (vs 122) ta9 rfl (st229.cellB (i := 0) rfl rfl) ?_)
 refine W1 (OpT.litV (v := (.int .i32 (((mget ([] : List (ByteArray × Int)) (⟨#[122]⟩ : ByteArray)).getD 0)))) (v' := (.int .i32 (0))) (by simp [mget_cons, mget_nil]) (fun hk => OpT.lookupI st229 1 rfl ko9 tu103 tz21 ((⟨#[122]⟩ : ByteArray)) rfl rfl hk) ?_)
 refine W1 (OpT.move (.int .i32 (1)) rfl ?_)
 refine W1 (OpT.lit (b := (decide ((0 : Int) < (1 : Int)))) (c := true) (by decide) (fun hk => OpT.ilt .i32 (0) (1) rfl rfl hk) ?_)
 refine Wnt ?_
 refine WC.condT rfl ?_
 refine WC.region ?_
 refine W1 (OpT.move (.map (some b188)) hI224.2.2.2.2.2.1 ?_)
 refine W1 (OpT.field 0 ⟨b225, 0, none⟩ ⟨b225, 0, none⟩ tf47_0 rfl rfl ?_)
 refine W1 (OpT.loadS ⟨b225, 0, none⟩ (vs 122) ta9 rfl (st229.cellB (i := 0) rfl rfl) ?_)
 refine W1 (OpT.move (.int .i32 (1)) rfl ?_)
 have e232 : mset ([] : List (ByteArray × Int)) (⟨#[122]⟩ : ByteArray) 1 = ([((⟨#[122]⟩ : ByteArray), 1)] : List (ByteArray × Int)) := by simp [mset_cons, mset_nil]
 refine WL.stepN (OpT.mapSet st229 1 rfl ko9 tu103 ((⟨#[122]⟩ : ByteArray)) (1) rfl rfl rfl (fun w230 st231 => ?_))
 rw [e232] at st231
 refine W1 (OpT.assign (.bool true) rfl ?_)
 refine WL.nil ?_
 refine blkQ_n ?_
 refine thenQ_n ?_
 refine WC.region ?_
 refine W1 (OpT.iadd .i64 (0) (1) (1) hI224.2.2.2.2.2.2.2.2.2.2.2.2.2.2.2.2.2.2.2.2.2.2.2.2.2.2.2.2.2.2.2 rfl (by decide) ?_)
 refine W1 (OpT.move (ii 1) rfl ?_)
 refine WL.nil ?_
 refine unrQ_n ?_
 refine UL.cut (fun r => r 1 = (pt b1 0) ∧ r 5 = (sl g30 3 cap31) ∧ r 6 = (.map (some mb37)) ∧ r 7 = (.map (some ib47)) ∧ r 10 = (pt b155 0) ∧ r 11 = (.map (some b188)) ∧ r 12 = (.bool true) ∧ r 14 = (pt b225 0) ∧ r 15 = (.int .i32 (1)) ∧ r 19 = (.agg #[(sl rb 2 2)]) ∧ r 20 = (sl g30 3 cap31) ∧ r 21 = (.agg #[(sl rb 2 2)]) ∧ r 22 = (.map (some mb37)) ∧ r 23 = (.tuple #[(.map (some ib47)), (sl og48 3 oc49)]) ∧ r 24 = (.map (some mb37)) ∧ r 25 = (.tuple #[(.map (some ib47)), (sl og48 3 oc49)]) ∧ r 26 = (.map (some ib47)) ∧ r 27 = (sl og48 3 oc49) ∧ r 28 = (sl g30 3 cap31) ∧ r 29 = (ii 3) ∧ r 30 = (ii 3) ∧ r 31 = (.bool false) ∧ r 32 = (pt g30 8) ∧ r 33 = (.agg #[(vs 121), (vs 120), (.int .i8 (1)), (ii 1)]) ∧ r 34 = (pt b155 2) ∧ r 35 = (.int .i8 (1)) ∧ r 36 = (.bool true) ∧ r 37 = (.bool true) ∧ r 47 = (.bool true) ∧ r 60 = (ii 3) ∧ r 61 = (.map (some b188)) ∧ r 62 = (sl g30 3 cap31) ∧ r 63 = (ii 3) ∧ r 64 = (ii 1) ∧ r 66 = (pt g30 0) ∧ r 67 = (.agg #[(vs 122), (vs 121), (.int .i8 (2)), (ii 0)]) ∧ r 68 = (.map (some b188)) ∧ r 69 = (pt b225 1) ∧ r 70 = (vs 121) ∧ r 71 = (.int .i32 (0)) ∧ r 72 = (pt b225 2) ∧ r 73 = (.int .i8 (2)) ∧ r 74 = (.bool true) ∧ r 75 = (.int .i32 (0)) ∧ r 76 = (.int .i32 (1)) ∧ r 77 = (.map (some b188)) ∧ r 78 = (pt b225 0) ∧ r 79 = (vs 122) ∧ r 80 = (.int .i32 (0)) ∧ r 81 = (.int .i32 (1)) ∧ r 82 = (.bool true) ∧ r 83 = (.map (some b188)) ∧ r 84 = (pt b225 0) ∧ r 85 = (vs 122) ∧ r 86 = (.int .i32 (1)) ∧ r 87 = (ii 1)) ⟨hI224.1, hI224.2.1, hI224.2.2.1, hI224.2.2.2.1, hI224.2.2.2.2.1, hI224.2.2.2.2.2.1, rfl, rfl, rfl, hI224.2.2.2.2.2.2.2.1, hI224.2.2.2.2.2.2.2.2.1, hI224.2.2.2.2.2.2.2.2.2.1, hI224.2.2.2.2.2.2.2.2.2.2.1, hI224.2.2.2.2.2.2.2.2.2.2.2.1, hI224.2.2.2.2.2.2.2.2.2.2.2.2.1, hI224.2.2.2.2.2.2.2.2.2.2.2.2.2.1, hI224.2.2.2.2.2.2.2.2.2.2.2.2.2.2.1, hI224.2.2.2.2.2.2.2.2.2.2.2.2.2.2.2.1, hI224.2.2.2.2.2.2.2.2.2.2.2.2.2.2.2.2.1, hI224.2.2.2.2.2.2.2.2.2.2.2.2.2.2.2.2.2.1, hI224.2.2.2.2.2.2.2.2.2.2.2.2.2.2.2.2.2.2.1, hI224.2.2.2.2.2.2.2.2.2.2.2.2.2.2.2.2.2.2.2.1, hI224.2.2.2.2.2.2.2.2.2.2.2.2.2.2.2.2.2.2.2.2.1, hI224.2.2.2.2.2.2.2.2.2.2.2.2.2.2.2.2.2.2.2.2.2.1, hI224.2.2.2.2.2.2.2.2.2.2.2.2.2.2.2.2.2.2.2.2.2.2.1, hI224.2.2.2.2.2.2.2.2.2.2.2.2.2.2.2.2.2.2.2.2.2.2.2.1, hI224.2.2.2.2.2.2.2.2.2.2.2.2.2.2.2.2.2.2.2.2.2.2.2.2.1, hI224.2.2.2.2.2.2.2.2.2.2.2.2.2.2.2.2.2.2.2.2.2.2.2.2.2.1, hI224.2.2.2.2.2.2.2.2.2.2.2.2.2.2.2.2.2.2.2.2.2.2.2.2.2.2.1, hI224.2.2.2.2.2.2.2.2.2.2.2.2.2.2.2.2.2.2.2.2.2.2.2.2.2.2.2.1, hI224.2.2.2.2.2.2.2.2.2.2.2.2.2.2.2.2.2.2.2.2.2.2.2.2.2.2.2.2.1, hI224.2.2.2.2.2.2.2.2.2.2.2.2.2.2.2.2.2.2.2.2.2.2.2.2.2.2.2.2.2.1, hI224.2.2.2.2.2.2.2.2.2.2.2.2.2.2.2.2.2.2.2.2.2.2.2.2.2.2.2.2.2.2.1, rfl, rfl, rfl, rfl, rfl, rfl, rfl, rfl, rfl, rfl, rfl, rfl, rfl, rfl, rfl, rfl, rfl, rfl, rfl, rfl, rfl, rfl, rfl⟩ ?_
 intro ρ233 hI290
 refine UL.go ?_
 refine Wsr ?_
 refine W1 (OpT.lit (b := (decide ((1 : Int) < (3 : Int)))) (c := true) (by decide) (fun hk => OpT.ilt .i64 (1) (3) hI290.2.2.2.2.2.2.2.2.2.2.2.2.2.2.2.2.2.2.2.2.2.2.2.2.2.2.2.2.2.2.2.2.2.1 hI290.2.2.2.2.2.2.2.2.2.2.2.2.2.2.2.2.2.2.2.2.2.2.2.2.2.2.2.2.2.2.2.2.1 hk) ?_)
 refine Wnt ?_
 refine WC.seq ?_
 refine WC.condT rfl ?_
 refine WC.skip ?_
 refine thenQ_n ?_
 refine WC.seq ?_
 refine WC.block ?_
 refine Wsr ?_
 refine W1 (OpT.idx 4 ⟨g30, 0, none⟩ ⟨g30, 4, none⟩ 3 cap31 .i64 1 tu24 ts47 hI290.2.2.2.2.2.2.2.2.2.2.2.2.2.2.2.2.2.2.2.2.2.2.2.2.2.2.2.2.2.2.2.1 hI290.2.2.2.2.2.2.2.2.2.2.2.2.2.2.2.2.2.2.2.2.2.2.2.2.2.2.2.2.2.2.2.2.2.1 (by decide) (by decide) rfl ?_)
 refine W1 (OpT.loadA ⟨g30, 4, none⟩ 4 [(vs 122), (vs 122), (.int .i8 (1)), (ii 0)] ta47 ts47 rfl ((st231.rowB (i := 11) rfl).part 4 4) rfl ?_)
 refine W1 (OpT.alloc st231 (.agg #[ve, ve, (.int .i8 (0)), (ii 0)]) [ve, ve, (.int .i8 (0)), (ii 0)] tz47 rfl (fun b291 w292 st293 => ?_))
 refine WL.stepN (OpT.storeA st293 0 4 [(vs 122), (vs 122), (.int .i8 (1)), (ii 0)] rfl ts47 rfl rfl rfl rfl rfl (fun w294 st295 => ?_))
 refine Wns ?_
 refine W1 (OpT.move (.map (some b188)) hI290.2.2.2.2.2.1 ?_)
 refine W1 (OpT.field 1 ⟨b291, 0, none⟩ ⟨b291, 1, none⟩ tf47_1 rfl rfl ?_)
 refine W1 (OpT.loadS ⟨b291, 1, none⟩ (vs 122) ta9 rfl (st295.cellB (i := 0) rfl rfl) ?_)
 refine W1 (OpT.litV (v := (.int .i32 (((mget ([((⟨#[122]⟩ : ByteArray), 1)] : List (ByteArray × Int)) (⟨#[122]⟩ : ByteArray)).getD 0)))) (v' := (.int .i32 (1))) (by simp [mget_cons, mget_nil]) (fun hk => OpT.lookupI st295 2 rfl ko9 tu103 tz21 ((⟨#[122]⟩ : ByteArray)) rfl rfl hk) ?_)
 refine W1 (OpT.assign (.int .i32 (1)) rfl ?_)
 refine Wnt ?_
 refine WC.seq ?_
 refine Wsr ?_
 refine W1 (OpT.field 2 ⟨b291, 0, none⟩ ⟨b291, 2, none⟩ tf47_2 rfl rfl ?_)
 refine W1 (OpT.loadS ⟨b291, 2, none⟩ (.int .i8 (1)) ta45 rfl (st295.cellB (i := 0) rfl rfl) ?_)
 refine W1 (OpT.lit (b := (decide ((1 : Int) ≠ (1 : Int)))) (c := false) (by decide) (fun hk => OpT.ine .i8 (1) (1) rfl rfl hk) ?_)
 refine Wnt ?_
 refine WC.condF rfl ?_
 refine WC.skip ?_
 refine thenQ_n ?_
 refine Wsr ?_
 refine W1 (OpT.move (.map (some b188)) hI290.2.2.2.2.2.1 ?_)
 refine W1 (OpT.field 0 ⟨b291, 0, none⟩ ⟨b291, 0, none⟩ tf47_0 rfl rfl ?_)
 refine W1 (OpT.loadS ⟨b291, 0, none⟩ (vs 122) ta9 rfl (st295.cellB (i := 0) rfl rfl) ?_)
 refine W1 (OpT.litV (v := (.int .i32 (((mget ([((⟨#[122]⟩ : ByteArray), 1)] : List (ByteArray × Int)) (⟨#[122]⟩ : ByteArray)).getD 0)))) (v' := (.int .i32 (1))) (by simp [mget_cons, mget_nil]) (fun hk => OpT.lookupI st295 2 rfl ko9 tu103 tz21 ((⟨#[122]⟩ : ByteArray)) rfl rfl hk) ?_)
 refine W1 (OpT.move (.int .i32 (1)) rfl ?_)
 refine W1 (OpT.lit (b := (decide ((1 : Int) < (1 : Int)))) (c := false) (by decide) (fun hk => OpT.ilt .i32 (1) (1) rfl rfl hk) ?_)
 refine Wnt ?_
 refine WC.condF rfl ?_
 refine WC.skip ?_
 refine blkQ_n ?_
 refine thenQ_n ?_
 refine WC.region ?_
 refine W1 (OpT.iadd .i64 (1) (1) (2) hI290.2.2.2.2.2.2.2.2.2.2.2.2.2.2.2.2.2.2.2.2.2.2.2.2.2.2.2.2.2.2.2.2.2.1 rfl (by decide) ?_)
 refine W1 (OpT.move (ii 2) rfl ?_)
 refine WL.nil ?_
 refine unrQ_n ?_
 refine UL.cut (fun r => r 1 = (pt b1 0) ∧ r 5 = (sl g30 3 cap31) ∧ r 6 = (.map (some mb37)) ∧ r 7 = (.map (some ib47)) ∧ r 10 = (pt b155 0) ∧ r 11 = (.map (some b188)) ∧ r 12 = (.bool true) ∧ r 14 = (pt b291 0) ∧ r 15 = (.int .i32 (1)) ∧ r 19 = (.agg #[(sl rb 2 2)]) ∧ r 20 = (sl g30 3 cap31) ∧ r 21 = (.agg #[(sl rb 2 2)]) ∧ r 22 = (.map (some mb37)) ∧ r 23 = (.tuple #[(.map (some ib47)), (sl og48 3 oc49)]) ∧ r 24 = (.map (some mb37)) ∧ r 25 = (.tuple #[(.map (some ib47)), (sl og48 3 oc49)]) ∧ r 26 = (.map (some ib47)) ∧ r 27 = (sl og48 3 oc49) ∧ r 28 = (sl g30 3 cap31) ∧ r 29 = (ii 3) ∧ r 30 = (ii 3) ∧ r 31 = (.bool false) ∧ r 32 = (pt g30 8) ∧ r 33 = (.agg #[(vs 121), (vs 120), (.int .i8 (1)), (ii 1)]) ∧ r 34 = (pt b155 2) ∧ r 35 = (.int .i8 (1)) ∧ r 36 = (.bool true) ∧ r 37 = (.bool true) ∧ r 47 = (.bool true) ∧ r 60 = (ii 3) ∧ r 61 = (.map (some b188)) ∧ r 62 = (sl g30 3 cap31) ∧ r 63 = (ii 3) ∧ r 64 = (ii 2) ∧ r 66 = (pt g30 4) ∧ r 67 = (.agg #[(vs 122), (vs 122), (.int .i8 (1)), (ii 0)]) ∧ r 68 = (.map (some b188)) ∧ r 69 = (pt b291 1) ∧ r 70 = (vs 122) ∧ r 71 = (.int .i32 (1)) ∧ r 72 = (pt b291 2) ∧ r 73 = (.int .i8 (1)) ∧ r 74 = (.bool false) ∧ r 75 = (.int .i32 (0)) ∧ r 76 = (.int .i32 (1)) ∧ r 77 = (.map (some b188)) ∧ r 78 = (pt b291 0) ∧ r 79 = (vs 122) ∧ r 80 = (.int .i32 (1)) ∧ r 81 = (.int .i32 (1)) ∧ r 82 = (.bool false) ∧ r 83 = (.map (some b188)) ∧ r 84 = (pt b225 0) ∧ r 85 = (vs 122) ∧ r 86 = (.int .i32 (1)) ∧ r 87 = (ii 2)) ⟨hI290.1, hI290.2.1, hI290.2.2.1, hI290.2.2.2.1, hI290.2.2.2.2.1, hI290.2.2.2.2.2.1, hI290.2.2.2.2.2.2.1, rfl, rfl, hI290.2.2.2.2.2.2.2.2.2.1, hI290.2.2.2.2.2.2.2.2.2.2.1, hI290.2.2.2.2.2.2.2.2.2.2.2.1, hI290.2.2.2.2.2.2.2.2.2.2.2.2.1, hI290.2.2.2.2.2.2.2.2.2.2.2.2.2.1, hI290.2.2.2.2.2.2.2.2.2.2.2.2.2.2.1, hI290.2.2.2.2.2.2.2.2.2.2.2.2.2.2.2.1, hI290.2.2.2.2.2.2.2.2.2.2.2.2.2.2.2.2.1, hI290.2.2.2.2.2.2.2.2.2.2.2.2.2.2.2.2.2.1, hI290.2.2.2.2.2.2.2.2.2.2.2.2.2.2.2.2.2.2.1, hI290.2.2.2.2.2.2.2.2.2.2.2.2.2.2.2.2.2.2.2.1, hI290.2.2.2.2.2.2.2.2.2.2.2.2.2.2.2.2.2.2.2.2.1, hI290.2.2.2.2.2.2.2.2.2.2.2.2.2.2.2.2.2.2.2.2.2.1, hI290.2.2.2.2.2.2.2.2.2.2.2.2.2.2.2.2.2.2.2.2.2.2.1, hI290.2.2.2.2.2.2.2.2.2.2.2.2.2.2.2.2.2.2.2.2.2.2.2.1, hI290.2.2.2.2.2.2.2.2.2.2.2.2.2.2.2.2.2.2.2.2.2.2.2.2.1, hI290.2.2.2.2.2.2.2.2.2.2.2.2.2.2.2.2.2.2.2.2.2.2.2.2.2.1, hI290.2.2.2.2.2.2.2.2.2.2.2.2.2.2.2.2.2.2.2.2.2.2.2.2.2.2.1, hI290.2.2.2.2.2.2.2.2.2.2.2.2.2.2.2.2.2.2.2.2.2.2.2.2.2.2.2.1, hI290.2.2.2.2.2.2.2.2.2.2.2.2.2.2.2.2.2.2.2.2.2.2.2.2.2.2.2.2.1, hI290.2.2.2.2.2.2.2.2.2.2.2.2.2.2.2.2.2.2.2.2.2.2.2.2.2.2.2.2.2.1, hI290.2.2.2.2.2.2.2.2.2.2.2.2.2.2.2.2.2.2.2.2.2.2.2.2.2.2.2.2.2.2.1, hI290.2.2.2.2.2.2.2.2.2.2.2.2.2.2.2.2.2.2.2.2.2.2.2.2.2.2.2.2.2.2.2.1, hI290.2.2.2.2.2.2.2.2.2.2.2.2.2.2.2.2.2.2.2.2.2.2.2.2.2.2.2.2.2.2.2.2.1, rfl, rfl, rfl, rfl, rfl, rfl, rfl, rfl, rfl, rfl, hI290.2.2.2.2.2.2.2.2.2.2.2.2.2.2.2.2.2.2.2.2.2.2.2.2.2.2.2.2.2.2.2.2.2.2.2.2.2.2.2.2.2.2.2.1, hI290.2.2.2.2.2.2.2.2.2.2.2.2.2.2.2.2.2.2.2.2.2.2.2.2.2.2.2.2.2.2.2.2.2.2.2.2.2.2.2.2.2.2.2.2.1, rfl, rfl, rfl, rfl, rfl, rfl, hI290.2.2.2.2.2.2.2.2.2.2.2.2.2.2.2.2.2.2.2.2.2.2.2.2.2.2.2.2.2.2.2.2.2.2.2.2.2.2.2.2.2.2.2.2.2.2.2.2.2.2.2.1, hI290.2.2.2.2.2.2.2.2.2.2.2.2.2.2.2.2.2.2.2.2.2.2.2.2.2.2.2.2.2.2.2.2.2.2.2.2.2.2.2.2.2.2.2.2.2.2.2.2.2.2.2.2.1, hI290.2.2.2.2.2.2.2.2.2.2.2.2.2.2.2.2.2.2.2.2.2.2.2.2.2.2.2.2.2.2.2.2.2.2.2.2.2.2.2.2.2.2.2.2.2.2.2.2.2.2.2.2.2.1, hI290.2.2.2.2.2.2.2.2.2.2.2.2.2.2.2.2.2.2.2.2.2.2.2.2.2.2.2.2.2.2.2.2.2.2.2.2.2.2.2.2.2.2.2.2.2.2.2.2.2.2.2.2.2.2.1, rfl⟩ ?_
 intro ρ296 hI353
 refine UL.go ?_
 refine Wsr ?_
 refine W1 (OpT.lit (b := (decide ((2 : Int) < (3 : Int)))) (c := true) (by decide) (fun hk => OpT.ilt .i64 (2) (3) hI353.2.2.2.2.2.2.2.2.2.2.2.2.2.2.2.2.2.2.2.2.2.2.2.2.2.2.2.2.2.2.2.2.2.1 hI353.2.2.2.2.2.2.2.2.2.2.2.2.2.2.2.2.2.2.2.2.2.2.2.2.2.2.2.2.2.2.2.2.1 hk) ?_)
 refine Wnt ?_
 refine WC.seq ?_
 refine WC.condT rfl ?_
 refine WC.skip ?_
 refine thenQ_n ?_
 refine WC.seq ?_
 refine WC.block ?_
 refine Wsr ?_
 refine W1 (OpT.idx 4 ⟨g30, 0, none⟩ ⟨g30, 8, none⟩ 3 cap31 .i64 2 tu24 ts47 hI353.2.2.2.2.2.2.2.2.2.2.2.2.2.2.2.2.2.2.2.2.2.2.2.2.2.2.2.2.2.2.2.1 hI353.2.2.2.2.2.2.2.2.2.2.2.2.2.2.2.2.2.2.2.2.2.2.2.2.2.2.2.2.2.2.2.2.2.1 (by decide) (by decide) rfl ?_)
 refine W1 (OpT.loadA ⟨g30, 8, none⟩ 4 [(vs 121), (vs 120), (.int .i8 (1)), (ii 1)] ta47 ts47 rfl ((st295.rowB (i := 12) rfl).part 8 4) rfl ?_)
 refine W1 (OpT.alloc st295 (.agg #[ve, ve, (.int .i8 (0)), (ii 0)]) [ve, ve, (.int .i8 (0)), (ii 0)] tz47 rfl (fun b354 w355 st356 => ?_))
 refine WL.stepN (OpT.storeA st356 0 4 [(vs 121), (vs 120), (.int .i8 (1)), (ii 1)] rfl ts47 rfl rfl rfl rfl rfl (fun w357 st358 => ?_))
 refine Wns ?_
 refine W1 (OpT.move (.map (some b188)) hI353.2.2.2.2.2.1 ?_)
 refine W1 (OpT.field 1 ⟨b354, 0, none⟩ ⟨b354, 1, none⟩ tf47_1 rfl rfl ?_)
 refine W1 (OpT.loadS ⟨b354, 1, none⟩ (vs 120) ta9 rfl (st358.cellB (i := 0) rfl rfl) ?_)
 refine W1 (OpT.litV (v := (.int .i32 (((mget ([((⟨#[122]⟩ : ByteArray), 1)] : List (ByteArray × Int)) (⟨#[120]⟩ : ByteArray)).getD 0)))) (v' := (.int .i32 (0))) (by simp [mget_cons, mget_nil]) (fun hk => OpT.lookupI st358 3 rfl ko9 tu103 tz21 ((⟨#[120]⟩ : ByteArray)) rfl rfl hk) ?_)
 refine W1 (OpT.assign (.int .i32 (0)) rfl ?_)
 refine Wnt ?_
 refine WC.seq ?_
 refine Wsr ?_
 refine W1 (OpT.field 2 ⟨b354, 0, none⟩ ⟨b354, 2, none⟩ tf47_2 rfl rfl ?_)
 refine W1 (OpT.loadS ⟨b354, 2, none⟩ (.int .i8 (1)) ta45 rfl (st358.cellB (i := 0) rfl rfl) ?_)
 refine W1 (OpT.lit (b := (decide ((1 : Int) ≠ (1 : Int)))) (c := false) (by decide) (fun hk => OpT.ine .i8 (1) (1) rfl rfl hk) ?_)
 refine Wnt ?_
 refine WC.condF rfl ?_
 refine WC.skip ?_
 refine thenQ_n ?_
 refine Wsr ?_
 refine W1 (OpT.move (.map (some b188)) hI353.2.2.2.2.2.1 ?_)
 refine W1 (OpT.field 0 ⟨b354, 0, none⟩ ⟨b354, 0, none⟩ tf47_0 rfl rfl ?_)
 refine W1 (OpT.loadS ⟨b354, 0, none⟩ (vs 121) ta9 rfl (st358.cellB (i := 0) rfl rfl) ?_)
 refine W1 (OpT.litV (v := (.int .i32 (((mget ([((⟨#[122]⟩ : ByteArray), 1)] : List (ByteArray × Int)) (⟨#[121]⟩ : ByteArray)).getD 0)))) (v' := (.int .i32 (0))) (by simp [mget_cons, mget_nil]) (fun hk => OpT.lookupI st358 3 rfl ko9 tu103 tz21 ((⟨#[121]⟩ : ByteArray)) rfl rfl hk) ?_)
 refine W1 (OpT.move (.int .i32 (0)) rfl ?_)
 refine W1 (OpT.lit (b := (decide ((0 : Int) < (0 : Int)))) (c := false) (by decide) (fun hk => OpT.ilt .i32 (0) (0) rfl rfl hk) ?_)
 refine Wnt ?_
 refine WC.condF rfl ?_
 refine WC.skip ?_
 refine blkQ_n ?_
 refine thenQ_n ?_
 refine WC.region ?_
 refine W1 (OpT.iadd .i64 (2) (1) (3) hI353.2.2.2.2.2.2.2.2.2.2.2.2.2.2.2.2.2.2.2.2.2.2.2.2.2.2.2.2.2.2.2.2.2.1 rfl (by decide) ?_)
 refine W1 (OpT.move (ii 3) rfl ?_)
 refine WL.nil ?_
 refine unrQ_n ?_
 refine UL.cut (fun r => r 1 = (pt b1 0) ∧ r 5 = (sl g30 3 cap31) ∧ r 6 = (.map (some mb37)) ∧ r 7 = (.map (some ib47)) ∧ r 10 = (pt b155 0) ∧ r 11 = (.map (some b188)) ∧ r 12 = (.bool true) ∧ r 14 = (pt b354 0) ∧ r 15 = (.int .i32 (0)) ∧ r 19 = (.agg #[(sl rb 2 2)]) ∧ r 20 = (sl g30 3 cap31) ∧ r 21 = (.agg #[(sl rb 2 2)]) ∧ r 22 = (.map (some mb37)) ∧ r 23 = (.tuple #[(.map (some ib47)), (sl og48 3 oc49)]) ∧ r 24 = (.map (some mb37)) ∧ r 25 = (.tuple #[(.map (some ib47)), (sl og48 3 oc49)]) ∧ r 26 = (.map (some ib47)) ∧ r 27 = (sl og48 3 oc49) ∧ r 28 = (sl g30 3 cap31) ∧ r 29 = (ii 3) ∧ r 30 = (ii 3) ∧ r 31 = (.bool false) ∧ r 32 = (pt g30 8) ∧ r 33 = (.agg #[(vs 121), (vs 120), (.int .i8 (1)), (ii 1)]) ∧ r 34 = (pt b155 2) ∧ r 35 = (.int .i8 (1)) ∧ r 36 = (.bool true) ∧ r 37 = (.bool true) ∧ r 47 = (.bool true) ∧ r 60 = (ii 3) ∧ r 61 = (.map (some b188)) ∧ r 62 = (sl g30 3 cap31) ∧ r 63 = (ii 3) ∧ r 64 = (ii 3) ∧ r 66 = (pt g30 8) ∧ r 67 = (.agg #[(vs 121), (vs 120), (.int .i8 (1)), (ii 1)]) ∧ r 68 = (.map (some b188)) ∧ r 69 = (pt b354 1) ∧ r 70 = (vs 120) ∧ r 71 = (.int .i32 (0)) ∧ r 72 = (pt b354 2) ∧ r 73 = (.int .i8 (1)) ∧ r 74 = (.bool false) ∧ r 75 = (.int .i32 (0)) ∧ r 76 = (.int .i32 (1)) ∧ r 77 = (.map (some b188)) ∧ r 78 = (pt b354 0) ∧ r 79 = (vs 121) ∧ r 80 = (.int .i32 (0)) ∧ r 81 = (.int .i32 (0)) ∧ r 82 = (.bool false) ∧ r 83 = (.map (some b188)) ∧ r 84 = (pt b225 0) ∧ r 85 = (vs 122) ∧ r 86 = (.int .i32 (1)) ∧ r 87 = (ii 3)) ⟨hI353.1, hI353.2.1, hI353.2.2.1, hI353.2.2.2.1, hI353.2.2.2.2.1, hI353.2.2.2.2.2.1, hI353.2.2.2.2.2.2.1, rfl, rfl, hI353.2.2.2.2.2.2.2.2.2.1, hI353.2.2.2.2.2.2.2.2.2.2.1, hI353.2.2.2.2.2.2.2.2.2.2.2.1, hI353.2.2.2.2.2.2.2.2.2.2.2.2.1, hI353.2.2.2.2.2.2.2.2.2.2.2.2.2.1, hI353.2.2.2.2.2.2.2.2.2.2.2.2.2.2.1, hI353.2.2.2.2.2.2.2.2.2.2.2.2.2.2.2.1, hI353.2.2.2.2.2.2.2.2.2.2.2.2.2.2.2.2.1, hI353.2.2.2.2.2.2.2.2.2.2.2.2.2.2.2.2.2.1, hI353.2.2.2.2.2.2.2.2.2.2.2.2.2.2.2.2.2.2.1, hI353.2.2.2.2.2.2.2.2.2.2.2.2.2.2.2.2.2.2.2.1, hI353.2.2.2.2.2.2.2.2.2.2.2.2.2.2.2.2.2.2.2.2.1, hI353.2.2.2.2.2.2.2.2.2.2.2.2.2.2.2.2.2.2.2.2.2.1, hI353.2.2.2.2.2.2.2.2.2.2.2.2.2.2.2.2.2.2.2.2.2.2.1, hI353.2.2.2.2.2.2.2.2.2.2.2.2.2.2.2.2.2.2.2.2.2.2.2.1, hI353.2.2.2.2.2.2.2.2.2.2.2.2.2.2.2.2.2.2.2.2.2.2.2.2.1, hI353.2.2.2.2.2.2.2.2.2.2.2.2.2.2.2.2.2.2.2.2.2.2.2.2.2.1, hI353.2.2.2.2.2.2.2.2.2.2.2.2.2.2.2.2.2.2.2.2.2.2.2.2.2.2.1, hI353.2.2.2.2.2.2.2.2.2.2.2.2.2.2.2.2.2.2.2.2.2.2.2.2.2.2.2.1, hI353.2.2.2.2.2.2.2.2.2.2.2.2.2.2.2.2.2.2.2.2.2.2.2.2.2.2.2.2.1, hI353.2.2.2.2.2.2.2.2.2.2.2.2.2.2.2.2.2.2.2.2.2.2.2.2.2.2.2.2.2.1, hI353.2.2.2.2.2.2.2.2.2.2.2.2.2.2.2.2.2.2.2.2.2.2.2.2.2.2.2.2.2.2.1, hI353.2.2.2.2.2.2.2.2.2.2.2.2.2.2.2.2.2.2.2.2.2.2.2.2.2.2.2.2.2.2.2.1, hI353.2.2.2.2.2.2.2.2.2.2.2.2.2.2.2.2.2.2.2.2.2.2.2.2.2.2.2.2.2.2.2.2.1, rfl, rfl, rfl, rfl, rfl, rfl, rfl, rfl, rfl, rfl, hI353.2.2.2.2.2.2.2.2.2.2.2.2.2.2.2.2.2.2.2.2.2.2.2.2.2.2.2.2.2.2.2.2.2.2.2.2.2.2.2.2.2.2.2.1, hI353.2.2.2.2.2.2.2.2.2.2.2.2.2.2.2.2.2.2.2.2.2.2.2.2.2.2.2.2.2.2.2.2.2.2.2.2.2.2.2.2.2.2.2.2.1, rfl, rfl, rfl, rfl, rfl, rfl, hI353.2.2.2.2.2.2.2.2.2.2.2.2.2.2.2.2.2.2.2.2.2.2.2.2.2.2.2.2.2.2.2.2.2.2.2.2.2.2.2.2.2.2.2.2.2.2.2.2.2.2.2.1, hI353.2.2.2.2.2.2.2.2.2.2.2.2.2.2.2.2.2.2.2.2.2.2.2.2.2.2.2.2.2.2.2.2.2.2.2.2.2.2.2.2.2.2.2.2.2.2.2.2.2.2.2.2.1, hI353.2.2.2.2.2.2.2.2.2.2.2.2.2.2.2.2.2.2.2.2.2.2.2.2.2.2.2.2.2.2.2.2.2.2.2.2.2.2.2.2.2.2.2.2.2.2.2.2.2.2.2.2.2.1, hI353.2.2.2.2.2.2.2.2.2.2.2.2.2.2.2.2.2.2.2.2.2.2.2.2.2.2.2.2.2.2.2.2.2.2.2.2.2.2.2.2.2.2.2.2.2.2.2.2.2.2.2.2.2.2.1, rfl⟩ ?_
 have st416 : St Z w0 w357 (Blk b354 47 [(vs 121), (vs 120), (.int .i8 (1)), (ii 1)] :: Blk b225 47 [(vs 122), (vs 121), (.int .i8 (2)), (ii 0)] :: Mp Value.string (Value.int .i32) b188 ([((⟨#[122]⟩ : ByteArray), 1)] : List (ByteArray × Int)) :: Blk b155 47 [(vs 121), (vs 120), (.int .i8 (1)), (ii 1)] :: Mp Value.string (Value.int .i64) ib47 ([((⟨#[120]⟩ : ByteArray), 0), ((⟨#[121]⟩ : ByteArray), 1), ((⟨#[122]⟩ : ByteArray), 2)] : List (ByteArray × Int)) :: Blk og48 68 (cx [(sl p151 1 c152), (sl p254 1 c255), (sl p357 1 c358)] ox50) :: Blk p151 9 (cx [(vs 120)] e153) :: Blk p254 9 (cx [(vs 121)] e256) :: Blk p357 9 (cx [(vs 122)] e359) :: Mp Value.string (fun v : Value => v) mb37 ([((⟨#[122]⟩ : ByteArray), (sl g38 2 cap39)), ((⟨#[121]⟩ : ByteArray), (sl g41 1 cap42)), ((⟨#[120]⟩ : ByteArray), vn)] : List (ByteArray × Value)) :: Blk g38 9 (cx [(vs 121), (vs 122)] ex40) :: Blk g41 9 (cx [(vs 120)] ex43) :: Blk g30 47 (cx [(vs 122), (vs 121), (.int .i8 (2)), (ii 0), (vs 122), (vs 122), (.int .i8 (1)), (ii 0), (vs 121), (vs 120), (.int .i8 (1)), (ii 1)] ex32) :: Blk b1 27 [(sl rb 2 2)] :: L) := (St.selD 15 [0, 2, 3, 4, 5, 6, 7, 8, 9, 10, 11, 12, 13, 14] rfl rfl (by decide) st358)
 intro ρ359 hI417
 refine UL.go ?_
 refine Wsr ?_
 refine W1 (OpT.lit (b := (decide ((3 : Int) < (3 : Int)))) (c := false) (by decide) (fun hk => OpT.ilt .i64 (3) (3) hI417.2.2.2.2.2.2.2.2.2.2.2.2.2.2.2.2.2.2.2.2.2.2.2.2.2.2.2.2.2.2.2.2.2.1 hI417.2.2.2.2.2.2.2.2.2.2.2.2.2.2.2.2.2.2.2.2.2.2.2.2.2.2.2.2.2.2.2.2.1 hk) ?_)
 refine Wnt ?_
 refine WC.seq ?_
 refine WC.condF rfl ?_
 refine WC.exit ?_
 refine thenQ_x ?_
 refine unrQ_x ?_
 refine blkQ_hit ?_
 refine thenQ_n ?_
 refine WC.seq ?_
 refine Wsr ?_
 refine W1 (OpT.move (.bool true) hI417.2.2.2.2.2.2.1 ?_)
 refine Wnt ?_
 refine WC.condT rfl ?_
 refine WC.goto ?_
 refine thenQ_g ?_
 refine jmpQ_g ?_
 refine US.cut (fun r => r 1 = (pt b1 0) ∧ r 5 = (sl g30 3 cap31) ∧ r 6 = (.map (some mb37)) ∧ r 7 = (.map (some ib47)) ∧ r 10 = (pt b155 0) ∧ r 11 = (.map (some b188)) ∧ r 14 = (pt b354 0) ∧ r 15 = (.int .i32 (0)) ∧ r 19 = (.agg #[(sl rb 2 2)]) ∧ r 20 = (sl g30 3 cap31) ∧ r 21 = (.agg #[(sl rb 2 2)]) ∧ r 22 = (.map (some mb37)) ∧ r 23 = (.tuple #[(.map (some ib47)), (sl og48 3 oc49)]) ∧ r 24 = (.map (some mb37)) ∧ r 25 = (.tuple #[(.map (some ib47)), (sl og48 3 oc49)]) ∧ r 26 = (.map (some ib47)) ∧ r 27 = (sl og48 3 oc49) ∧ r 28 = (sl g30 3 cap31) ∧ r 29 = (ii 3) ∧ r 30 = (ii 3) ∧ r 31 = (.bool false) ∧ r 32 = (pt g30 8) ∧ r 33 = (.agg #[(vs 121), (vs 120), (.int .i8 (1)), (ii 1)]) ∧ r 34 = (pt b155 2) ∧ r 35 = (.int .i8 (1)) ∧ r 36 = (.bool true) ∧ r 37 = (.bool true) ∧ r 47 = (.bool true) ∧ r 60 = (ii 3) ∧ r 61 = (.map (some b188)) ∧ r 66 = (pt g30 8) ∧ r 67 = (.agg #[(vs 121), (vs 120), (.int .i8 (1)), (ii 1)]) ∧ r 68 = (.map (some b188)) ∧ r 69 = (pt b354 1) ∧ r 70 = (vs 120) ∧ r 71 = (.int .i32 (0)) ∧ r 72 = (pt b354 2) ∧ r 73 = (.int .i8 (1)) ∧ r 74 = (.bool false) ∧ r 75 = (.int .i32 (0)) ∧ r 76 = (.int .i32 (1)) ∧ r 77 = (.map (some b188)) ∧ r 78 = (pt b354 0) ∧ r 79 = (vs 121) ∧ r 80 = (.int .i32 (0)) ∧ r 81 = (.int .i32 (0)) ∧ r 82 = (.bool false) ∧ r 83 = (.map (some b188)) ∧ r 84 = (pt b225 0) ∧ r 85 = (vs 122) ∧ r 86 = (.int .i32 (1)) ∧ r 87 = (ii 3)) ⟨hI417.1, hI417.2.1, hI417.2.2.1, hI417.2.2.2.1, hI417.2.2.2.2.1, hI417.2.2.2.2.2.1, hI417.2.2.2.2.2.2.2.1, hI417.2.2.2.2.2.2.2.2.1, hI417.2.2.2.2.2.2.2.2.2.1, hI417.2.2.2.2.2.2.2.2.2.2.1, hI417.2.2.2.2.2.2.2.2.2.2.2.1, hI417.2.2.2.2.2.2.2.2.2.2.2.2.1, hI417.2.2.2.2.2.2.2.2.2.2.2.2.2.1, hI417.2.2.2.2.2.2.2.2.2.2.2.2.2.2.1, hI417.2.2.2.2.2.2.2.2.2.2.2.2.2.2.2.1, hI417.2.2.2.2.2.2.2.2.2.2.2.2.2.2.2.2.1, hI417.2.2.2.2.2.2.2.2.2.2.2.2.2.2.2.2.2.1, hI417.2.2.2.2.2.2.2.2.2.2.2.2.2.2.2.2.2.2.1, hI417.2.2.2.2.2.2.2.2.2.2.2.2.2.2.2.2.2.2.2.1, hI417.2.2.2.2.2.2.2.2.2.2.2.2.2.2.2.2.2.2.2.2.1, hI417.2.2.2.2.2.2.2.2.2.2.2.2.2.2.2.2.2.2.2.2.2.1, hI417.2.2.2.2.2.2.2.2.2.2.2.2.2.2.2.2.2.2.2.2.2.2.1, hI417.2.2.2.2.2.2.2.2.2.2.2.2.2.2.2.2.2.2.2.2.2.2.2.1, hI417.2.2.2.2.2.2.2.2.2.2.2.2.2.2.2.2.2.2.2.2.2.2.2.2.1, hI417.2.2.2.2.2.2.2.2.2.2.2.2.2.2.2.2.2.2.2.2.2.2.2.2.2.1, hI417.2.2.2.2.2.2.2.2.2.2.2.2.2.2.2.2.2.2.2.2.2.2.2.2.2.2.1, hI417.2.2.2.2.2.2.2.2.2.2.2.2.2.2.2.2.2.2.2.2.2.2.2.2.2.2.2.1, hI417.2.2.2.2.2.2.2.2.2.2.2.2.2.2.2.2.2.2.2.2.2.2.2.2.2.2.2.2.1, hI417.2.2.2.2.2.2.2.2.2.2.2.2.2.2.2.2.2.2.2.2.2.2.2.2.2.2.2.2.2.1, hI417.2.2.2.2.2.2.2.2.2.2.2.2.2.2.2.2.2.2.2.2.2.2.2.2.2.2.2.2.2.2.1, hI417.2.2.2.2.2.2.2.2.2.2.2.2.2.2.2.2.2.2.2.2.2.2.2.2.2.2.2.2.2.2.2.2.2.2.1, hI417.2.2.2.2.2.2.2.2.2.2.2.2.2.2.2.2.2.2.2.2.2.2.2.2.2.2.2.2.2.2.2.2.2.2.2.1, hI417.2.2.2.2.2.2.2.2.2.2.2.2.2.2.2.2.2.2.2.2.2.2.2.2.2.2.2.2.2.2.2.2.2.2.2.2.1, hI417.2.2.2.2.2.2.2.2.2.2.2.2.2.2.2.2.2.2.2.2.2.2.2.2.2.2.2.2.2.2.2.2.2.2.2.2.2.1, hI417.2.2.2.2.2.2.2.2.2.2.2.2.2.2.2.2.2.2.2.2.2.2.2.2.2.2.2.2.2.2.2.2.2.2.2.2.2.2.1, hI417.2.2.2.2.2.2.2.2.2.2.2.2.2.2.2.2.2.2.2.2.2.2.2.2.2.2.2.2.2.2.2.2.2.2.2.2.2.2.2.1, hI417.2.2.2.2.2.2.2.2.2.2.2.2.2.2.2.2.2.2.2.2.2.2.2.2.2.2.2.2.2.2.2.2.2.2.2.2.2.2.2.2.1, hI417.2.2.2.2.2.2.2.2.2.2.2.2.2.2.2.2.2.2.2.2.2.2.2.2.2.2.2.2.2.2.2.2.2.2.2.2.2.2.2.2.2.1, hI417.2.2.2.2.2.2.2.2.2.2.2.2.2.2.2.2.2.2.2.2.2.2.2.2.2.2.2.2.2.2.2.2.2.2.2.2.2.2.2.2.2.2.1, hI417.2.2.2.2.2.2.2.2.2.2.2.2.2.2.2.2.2.2.2.2.2.2.2.2.2.2.2.2.2.2.2.2.2.2.2.2.2.2.2.2.2.2.2.1, hI417.2.2.2.2.2.2.2.2.2.2.2.2.2.2.2.2.2.2.2.2.2.2.2.2.2.2.2.2.2.2.2.2.2.2.2.2.2.2.2.2.2.2.2.2.1, hI417.2.2.2.2.2.2.2.2.2.2.2.2.2.2.2.2.2.2.2.2.2.2.2.2.2.2.2.2.2.2.2.2.2.2.2.2.2.2.2.2.2.2.2.2.2.1, hI417.2.2.2.2.2.2.2.2.2.2.2.2.2.2.2.2.2.2.2.2.2.2.2.2.2.2.2.2.2.2.2.2.2.2.2.2.2.2.2.2.2.2.2.2.2.2.1, hI417.2.2.2.2.2.2.2.2.2.2.2.2.2.2.2.2.2.2.2.2.2.2.2.2.2.2.2.2.2.2.2.2.2.2.2.2.2.2.2.2.2.2.2.2.2.2.2.1, hI417.2.2.2.2.2.2.2.2.2.2.2.2.2.2.2.2.2.2.2.2.2.2.2.2.2.2.2.2.2.2.2.2.2.2.2.2.2.2.2.2.2.2.2.2.2.2.2.2.1, hI417.2.2.2.2.2.2.2.2.2.2.2.2.2.2.2.2.2.2.2.2.2.2.2.2.2.2.2.2.2.2.2.2.2.2.2.2.2.2.2.2.2.2.2.2.2.2.2.2.2.1, hI417.2.2.2.2.2.2.2.2.2.2.2.2.2.2.2.2.2.2.2.2.2.2.2.2.2.2.2.2.2.2.2.2.2.2.2.2.2.2.2.2.2.2.2.2.2.2.2.2.2.2.1, hI417.2.2.2.2.2.2.2.2.2.2.2.2.2.2.2.2.2.2.2.2.2.2.2.2.2.2.2.2.2.2.2.2.2.2.2.2.2.2.2.2.2.2.2.2.2.2.2.2.2.2.2.1, hI417.2.2.2.2.2.2.2.2.2.2.2.2.2.2.2.2.2.2.2.2.2.2.2.2.2.2.2.2.2.2.2.2.2.2.2.2.2.2.2.2.2.2.2.2.2.2.2.2.2.2.2.2.1, hI417.2.2.2.2.2.2.2.2.2.2.2.2.2.2.2.2.2.2.2.2.2.2.2.2.2.2.2.2.2.2.2.2.2.2.2.2.2.2.2.2.2.2.2.2.2.2.2.2.2.2.2.2.2.1, hI417.2.2.2.2.2.2.2.2.2.2.2.2.2.2.2.2.2.2.2.2.2.2.2.2.2.2.2.2.2.2.2.2.2.2.2.2.2.2.2.2.2.2.2.2.2.2.2.2.2.2.2.2.2.2.1, hI417.2.2.2.2.2.2.2.2.2.2.2.2.2.2.2.2.2.2.2.2.2.2.2.2.2.2.2.2.2.2.2.2.2.2.2.2.2.2.2.2.2.2.2.2.2.2.2.2.2.2.2.2.2.2.2⟩ ?_
 intro ρ418 hI471
 refine US.go ?_
 refine WC.seq ?_
 refine WC.skip ?_
 refine thenQ_n ?_
 refine Wsr ?_
 refine W1 (OpT.assign (.bool false) rfl ?_)
 refine Wnt ?_
 refine WC.seq ?_
 refine Wsr ?_
 refine W1 (OpT.move (sl g30 3 cap31) hI471.2.1 ?_)
 refine W1 (OpT.litV (v := (ni 3)) (v' := (ii 3)) rfl (fun hk => OpT.lenS _ 3 cap31 rfl tu24 rfl hk) ?_)
 refine W1 (OpT.move (ii 0) rfl ?_)
 refine Wnt ?_
 refine WC.block ?_
 refine WC.unroll 12 ?_
 refine UL.cut (fun r => r 1 = (pt b1 0) ∧ r 5 = (sl g30 3 cap31) ∧ r 6 = (.map (some mb37)) ∧ r 7 = (.map (some ib47)) ∧ r 10 = (pt b155 0) ∧ r 11 = (.map (some b188)) ∧ r 12 = (.bool false) ∧ r 14 = (pt b354 0) ∧ r 15 = (.int .i32 (0)) ∧ r 19 = (.agg #[(sl rb 2 2)]) ∧ r 20 = (sl g30 3 cap31) ∧ r 21 = (.agg #[(sl rb 2 2)]) ∧ r 22 = (.map (some mb37)) ∧ r 23 = (.tuple #[(.map (some ib47)), (sl og48 3 oc49)]) ∧ r 24 = (.map (some mb37)) ∧ r 25 = (.tuple #[(.map (some ib47)), (sl og48 3 oc49)]) ∧ r 26 = (.map (some ib47)) ∧ r 27 = (sl og48 3 oc49) ∧ r 28 = (sl g30 3 cap31) ∧ r 29 = (ii 3) ∧ r 30 = (ii 3) ∧ r 31 = (.bool false) ∧ r 32 = (pt g30 8) ∧ r 33 = (.agg #[(vs 121), (vs 120), (.int .i8 (1)), (ii 1)]) ∧ r 34 = (pt b155 2) ∧ r 35 = (.int .i8 (1)) ∧ r 36 = (.bool true) ∧ r 37 = (.bool true) ∧ r 47 = (.bool true) ∧ r 60 = (ii 3) ∧ r 61 = (.map (some b188)) ∧ r 62 = (sl g30 3 cap31) ∧ r 63 = (ii 3) ∧ r 64 = (ii 0) ∧ r 66 = (pt g30 8) ∧ r 67 = (.agg #[(vs 121), (vs 120), (.int .i8 (1)), (ii 1)]) ∧ r 68 = (.map (some b188)) ∧ r 69 = (pt b354 1) ∧ r 70 = (vs 120) ∧ r 71 = (.int .i32 (0)) ∧ r 72 = (pt b354 2) ∧ r 73 = (.int .i8 (1)) ∧ r 74 = (.bool false) ∧ r 75 = (.int .i32 (0)) ∧ r 76 = (.int .i32 (1)) ∧ r 77 = (.map (some b188)) ∧ r 78 = (pt b354 0) ∧ r 79 = (vs 121) ∧ r 80 = (.int .i32 (0)) ∧ r 81 = (.int .i32 (0)) ∧ r 82 = (.bool false) ∧ r 83 = (.map (some b188)) ∧ r 84 = (pt b225 0) ∧ r 85 = (vs 122) ∧ r 86 = (.int .i32 (1)) ∧ r 87 = (ii 3)) ⟨hI471.1, hI471.2.1, hI471.2.2.1, hI471.2.2.2.1, hI471.2.2.2.2.1, hI471.2.2.2.2.2.1, rfl, hI471.2.2.2.2.2.2.1, hI471.2.2.2.2.2.2.2.1, hI471.2.2.2.2.2.2.2.2.1, hI471.2.2.2.2.2.2.2.2.2.1, hI471.2.2.2.2.2.2.2.2.2.2.1, hI471.2.2.2.2.2.2.2.2.2.2.2.1, hI471.2.2.2.2.2.2.2.2.2.2.2.2.1, hI471.2.2.2.2.2.2.2.2.2.2.2.2.2.1, hI471.2.2.2.2.2.2.2.2.2.2.2.2.2.2.1, hI471.2.2.2.2.2.2.2.2.2.2.2.2.2.2.2.1, hI471.2.2.2.2.2.2.2.2.2.2.2.2.2.2.2.2.1, hI471.2.2.2.2.2.2.2.2.2.2.2.2.2.2.2.2.2.1, hI471.2.2.2.2.2.2.2.2.2.2.2.2.2.2.2.2.2.2.1, hI471.2.2.2.2.2.2.2.2.2.2.2.2.2.2.2.2.2.2.2.1, hI471.2.2.2.2.2.2.2.2.2.2.2.2.2.2.2.2.2.2.2.2.1, hI471.2.2.2.2.2.2.2.2.2.2.2.2.2.2.2.2.2.2.2.2.2.1, hI471.2.2.2.2.2.2.2.2.2.2.2.2.2.2.2.2.2.2.2.2.2.2.1, hI471.2.2.2.2.2.2.2.2.2.2.2.2.2.2.2.2.2.2.2.2.2.2.2.1, hI471.2.2.2.2.2.2.2.2.2.2.2.2.2.2.2.2.2.2.2.2.2.2.2.2.1, hI471.2.2.2.2.2.2.2.2.2.2.2.2.2.2.2.2.2.2.2.2.2.2.2.2.2.1, hI471.2.2.2.2.2.2.2.2.2.2.2.2.2.2.2.2.2.2.2.2.2.2.2.2.2.2.1, hI471.2.2.2.2.2.2.2.2.2.2.2.2.2.2.2.2.2.2.2.2.2.2.2.2.2.2.2.1, hI471.2.2.2.2.2.2.2.2.2.2.2.2.2.2.2.2.2.2.2.2.2.2.2.2.2.2.2.2.1, hI471.2.2.2.2.2.2.2.2.2.2.2.2.2.2.2.2.2.2.2.2.2.2.2.2.2.2.2.2.2.1, rfl, rfl, rfl, hI471.2.2.2.2.2.2.2.2.2.2.2.2.2.2.2.2.2.2.2.2.2.2.2.2.2.2.2.2.2.2.1, hI471.2.2.2.2.2.2.2.2.2.2.2.2.2.2.2.2.2.2.2.2.2.2.2.2.2.2.2.2.2.2.2.1, hI471.2.2.2.2.2.2.2.2.2.2.2.2.2.2.2.2.2.2.2.2.2.2.2.2.2.2.2.2.2.2.2.2.1, hI471.2.2.2.2.2.2.2.2.2.2.2.2.2.2.2.2.2.2.2.2.2.2.2.2.2.2.2.2.2.2.2.2.2.1, hI471.2.2.2.2.2.2.2.2.2.2.2.2.2.2.2.2.2.2.2.2.2.2.2.2.2.2.2.2.2.2.2.2.2.2.1, hI471.2.2.2.2.2.2.2.2.2.2.2.2.2.2.2.2.2.2.2.2.2.2.2.2.2.2.2.2.2.2.2.2.2.2.2.1, hI471.2.2.2.2.2.2.2.2.2.2.2.2.2.2.2.2.2.2.2.2.2.2.2.2.2.2.2.2.2.2.2.2.2.2.2.2.1, hI471.2.2.2.2.2.2.2.2.2.2.2.2.2.2.2.2.2.2.2.2.2.2.2.2.2.2.2.2.2.2.2.2.2.2.2.2.2.1, hI471.2.2.2.2.2.2.2.2.2.2.2.2.2.2.2.2.2.2.2.2.2.2.2.2.2.2.2.2.2.2.2.2.2.2.2.2.2.2.1, hI471.2.2.2.2.2.2.2.2.2.2.2.2.2.2.2.2.2.2.2.2.2.2.2.2.2.2.2.2.2.2.2.2.2.2.2.2.2.2.2.1, hI471.2.2.2.2.2.2.2.2.2.2.2.2.2.2.2.2.2.2.2.2.2.2.2.2.2.2.2.2.2.2.2.2.2.2.2.2.2.2.2.2.1, hI471.2.2.2.2.2.2.2.2.2.2.2.2.2.2.2.2.2.2.2.2.2.2.2.2.2.2.2.2.2.2.2.2.2.2.2.2.2.2.2.2.2.1, hI471.2.2.2.2.2.2.2.2.2.2.2.2.2.2.2.2.2.2.2.2.2.2.2.2.2.2.2.2.2.2.2.2.2.2.2.2.2.2.2.2.2.2.1, hI471.2.2.2.2.2.2.2.2.2.2.2.2.2.2.2.2.2.2.2.2.2.2.2.2.2.2.2.2.2.2.2.2.2.2.2.2.2.2.2.2.2.2.2.1, hI471.2.2.2.2.2.2.2.2.2.2.2.2.2.2.2.2.2.2.2.2.2.2.2.2.2.2.2.2.2.2.2.2.2.2.2.2.2.2.2.2.2.2.2.2.1, hI471.2.2.2.2.2.2.2.2.2.2.2.2.2.2.2.2.2.2.2.2.2.2.2.2.2.2.2.2.2.2.2.2.2.2.2.2.2.2.2.2.2.2.2.2.2.1, hI471.2.2.2.2.2.2.2.2.2.2.2.2.2.2.2.2.2.2.2.2.2.2.2.2.2.2.2.2.2.2.2.2.2.2.2.2.2.2.2.2.2.2.2.2.2.2.1, hI471.2.2.2.2.2.2.2.2.2.2.2.2.2.2.2.2.2.2.2.2.2.2.2.2.2.2.2.2.2.2.2.2.2.2.2.2.2.2.2.2.2.2.2.2.2.2.2.1, hI471.2.2.2.2.2.2.2.2.2.2.2.2.2.2.2.2.2.2.2.2.2.2.2.2.2.2.2.2.2.2.2.2.2.2.2.2.2.2.2.2.2.2.2.2.2.2.2.2.1, hI471.2.2.2.2.2.2.2.2.2.2.2.2.2.2.2.2.2.2.2.2.2.2.2.2.2.2.2.2.2.2.2.2.2.2.2.2.2.2.2.2.2.2.2.2.2.2.2.2.2.1, hI471.2.2.2.2.2.2.2.2.2.2.2.2.2.2.2.2.2.2.2.2.2.2.2.2.2.2.2.2.2.2.2.2.2.2.2.2.2.2.2.2.2.2.2.2.2.2.2.2.2.2.1, hI471.2.2.2.2.2.2.2.2.2.2.2.2.2.2.2.2.2.2.2.2.2.2.2.2.2.2.2.2.2.2.2.2.2.2.2.2.2.2.2.2.2.2.2.2.2.2.2.2.2.2.2⟩ ?_
 intro ρ472 hI529
 refine UL.go ?_
 refine Wsr ?_
 refine W1 (OpT.lit (b := (decide ((0 : Int) < (3 : Int)))) (c := true) (by decide) (fun hk => OpT.ilt .i64 (0) (3) hI529.2.2.2.2.2.2.2.2.2.2.2.2.2.2.2.2.2.2.2.2.2.2.2.2.2.2.2.2.2.2.2.2.2.1 hI529.2.2.2.2.2.2.2.2.2.2.2.2.2.2.2.2.2.2.2.2.2.2.2.2.2.2.2.2.2.2.2.2.1 hk) ?_)
 refine Wnt ?_
 refine WC.seq ?_
 refine WC.condT rfl ?_
 refine WC.skip ?_
 refine thenQ_n ?_
 refine WC.seq ?_
 refine WC.block ?_
 refine Wsr ?_
 refine W1 (OpT.idx 4 ⟨g30, 0, none⟩ ⟨g30, 0, none⟩ 3 cap31 .i64 0 tu24 ts47 hI529.2.2.2.2.2.2.2.2.2.2.2.2.2.2.2.2.2.2.2.2.2.2.2.2.2.2.2.2.2.2.2.1 hI529.2.2.2.2.2.2.2.2.2.2.2.2.2.2.2.2.2.2.2.2.2.2.2.2.2.2.2.2.2.2.2.2.2.1 (by decide) (by decide) rfl ?_)
 refine W1 (OpT.loadA ⟨g30, 0, none⟩ 4 [(vs 122), (vs 121), (.int .i8 (2)), (ii 0)] ta47 ts47 rfl ((st416.rowB (i := 12) rfl).part 0 4) rfl ?_)
 refine W1 (OpT.alloc st416 (.agg #[ve, ve, (.int .i8 (0)), (ii 0)]) [ve, ve, (.int .i8 (0)), (ii 0)] tz47 rfl (fun b530 w531 st532 => ?_))
 refine WL.stepN (OpT.storeA st532 0 4 [(vs 122), (vs 121), (.int .i8 (2)), (ii 0)] rfl ts47 rfl rfl rfl rfl rfl (fun w533 st534 => ?_))
 refine Wns ?_
 refine W1 (OpT.move (.map (some b188)) hI529.2.2.2.2.2.1 ?_)
 refine W1 (OpT.field 1 ⟨b530, 0, none⟩ ⟨b530, 1, none⟩ tf47_1 rfl rfl ?_)
 refine W1 (OpT.loadS ⟨b530, 1, none⟩ (vs 121) ta9 rfl (st534.cellB (i := 0) rfl rfl) ?_)
 refine W1 (OpT.litV (v := (.int .i32 (((mget ([((⟨#[122]⟩ : ByteArray), 1)] : List (ByteArray × Int)) (⟨#[121]⟩ : ByteArray)).getD 0)))) (v' := (.int .i32 (0))) (by simp [mget_cons, mget_nil]) (fun hk => OpT.lookupI st534 3 rfl ko9 tu103 tz21 ((⟨#[121]⟩ : ByteArray)) rfl rfl hk) ?_)
 refine W1 (OpT.assign (.int .i32 (0)) rfl ?_)
 refine Wnt ?_
 refine WC.seq ?_
 refine Wsr ?_
 refine W1 (OpT.field 2 ⟨b530, 0, none⟩ ⟨b530, 2, none⟩ tf47_2 rfl rfl ?_)
 refine W1 (OpT.loadS ⟨b530, 2, none⟩ (.int .i8 (2)) ta45 rfl (st534.cellB (i := 0) rfl rfl) ?_)
 refine W1 (OpT.lit (b := (decide ((2 : Int) ≠ (1 : Int)))) (c := true) (by decide) (fun hk => OpT.ine .i8 (2) (1) rfl rfl hk) ?_)
 refine Wnt ?_
 refine WC.condT rfl ?_
 refine WC.region ?_
 refine W1 (OpT.move (.int .i32 (0)) rfl ?_)
 refine W1 (OpT.iadd .i32 (0) (1) (1) rfl rfl (by decide) ?_)
 refine W1 (OpT.assign (.int .i32 (1)) rfl ?_)
 refine Wns ?_
 refine W1 (OpT.move (.map (some b188)) hI529.2.2.2.2.2.1 ?_)
 refine W1 (OpT.field 0 ⟨b530, 0, none⟩ ⟨b530, 0, none⟩ tf47_0 rfl rfl ?_)
 refine W1 (OpT.loadS ⟨b530, 0, none⟩ (vs 122) ta9 rfl (st534.cellB (i := 0) rfl rfl) ?_)
 refine W1 (OpT.litV (v := (.int .i32 (((mget ([((⟨#[122]⟩ : ByteArray), 1)] : List (ByteArray × Int)) (⟨#[122]⟩ : ByteArray)).getD 0)))) (v' := (.int .i32 (1))) (by simp [mget_cons, mget_nil]) (fun hk => OpT.lookupI st534 3 rfl ko9 tu103 tz21 ((⟨#[122]⟩ : ByteArray)) rfl rfl hk) ?_)
 refine W1 (OpT.move (.int .i32 (1)) rfl ?_)
 refine W1 (OpT.lit (b := (decide ((1 : Int) < (1 : Int)))) (c := false) (by decide) (fun hk => OpT.ilt .i32 (1) (1) rfl rfl hk) ?_)
 refine Wnt ?_
 refine WC.condF rfl ?_
 refine WC.skip ?_
 refine blkQ_n ?_
 refine thenQ_n ?_
 refine WC.region ?_
 refine W1 (OpT.iadd .i64 (0) (1) (1) hI529.2.2.2.2.2.2.2.2.2.2.2.2.2.2.2.2.2.2.2.2.2.2.2.2.2.2.2.2.2.2.2.2.2.1 rfl (by decide) ?_)
 refine W1 (OpT.move (ii 1) rfl ?_)
 refine WL.nil ?_
 refine unrQ_n ?_
 refine UL.cut (fun r => r 1 = (pt b1 0) ∧ r 5 = (sl g30 3 cap31) ∧ r 6 = (.map (some mb37)) ∧ r 7 = (.map (some ib47)) ∧ r 10 = (pt b155 0) ∧ r 11 = (.map (some b188)) ∧ r 12 = (.bool false) ∧ r 14 = (pt b530 0) ∧ r 15 = (.int .i32 (1)) ∧ r 19 = (.agg #[(sl rb 2 2)]) ∧ r 20 = (sl g30 3 cap31) ∧ r 21 = (.agg #[(sl rb 2 2)]) ∧ r 22 = (.map (some mb37)) ∧ r 23 = (.tuple #[(.map (some ib47)), (sl og48 3 oc49)]) ∧ r 24 = (.map (some mb37)) ∧ r 25 = (.tuple #[(.map (some ib47)), (sl og48 3 oc49)]) ∧ r 26 = (.map (some ib47)) ∧ r 27 = (sl og48 3 oc49) ∧ r 28 = (sl g30 3 cap31) ∧ r 29 = (ii 3) ∧ r 30 = (ii 3) ∧ r 31 = (.bool false) ∧ r 32 = (pt g30 8) ∧ r 33 = (.agg #[(vs 121), (vs 120), (.int .i8 (1)), (ii 1)]) ∧ r 34 = (pt b155 2) ∧ r 35 = (.int .i8 (1)) ∧ r 36 = (.bool true) ∧ r 37 = (.bool true) ∧ r 47 = (.bool true) ∧ r 60 = (ii 3) ∧ r 61 = (.map (some b188)) ∧ r 62 = (sl g30 3 cap31) ∧ r 63 = (ii 3) ∧ r 64 = (ii 1) ∧ r 66 = (pt g30 0) ∧ r 67 = (.agg #[(vs 122), (vs 121), (.int .i8 (2)), (ii 0)]) ∧ r 68 = (.map (some b188)) ∧ r 69 = (pt b530 1) ∧ r 70 = (vs 121) ∧ r 71 = (.int .i32 (0)) ∧ r 72 = (pt b530 2) ∧ r 73 = (.int .i8 (2)) ∧ r 74 = (.bool true) ∧ r 75 = (.int .i32 (0)) ∧ r 76 = (.int .i32 (1)) ∧ r 77 = (.map (some b188)) ∧ r 78 = (pt b530 0) ∧ r 79 = (vs 122) ∧ r 80 = (.int .i32 (1)) ∧ r 81 = (.int .i32 (1)) ∧ r 82 = (.bool false) ∧ r 83 = (.map (some b188)) ∧ r 84 = (pt b225 0) ∧ r 85 = (vs 122) ∧ r 86 = (.int .i32 (1)) ∧ r 87 = (ii 1)) ⟨hI529.1, hI529.2.1, hI529.2.2.1, hI529.2.2.2.1, hI529.2.2.2.2.1, hI529.2.2.2.2.2.1, hI529.2.2.2.2.2.2.1, rfl, rfl, hI529.2.2.2.2.2.2.2.2.2.1, hI529.2.2.2.2.2.2.2.2.2.2.1, hI529.2.2.2.2.2.2.2.2.2.2.2.1, hI529.2.2.2.2.2.2.2.2.2.2.2.2.1, hI529.2.2.2.2.2.2.2.2.2.2.2.2.2.1, hI529.2.2.2.2.2.2.2.2.2.2.2.2.2.2.1, hI529.2.2.2.2.2.2.2.2.2.2.2.2.2.2.2.1, hI529.2.2.2.2.2.2.2.2.2.2.2.2.2.2.2.2.1, hI529.2.2.2.2.2.2.2.2.2.2.2.2.2.2.2.2.2.1, hI529.2.2.2.2.2.2.2.2.2.2.2.2.2.2.2.2.2.2.1, hI529.2.2.2.2.2.2.2.2.2.2.2.2.2.2.2.2.2.2.2.1, hI529.2.2.2.2.2.2.2.2.2.2.2.2.2.2.2.2.2.2.2.2.1, hI529.2.2.2.2.2.2.2.2.2.2.2.2.2.2.2.2.2.2.2.2.2.1, hI529.2.2.2.2.2.2.2.2.2.2.2.2.2.2.2.2.2.2.2.2.2.2.1, hI529.2.2.2.2.2.2.2.2.2.2.2.2.2.2.2.2.2.2.2.2.2.2.2.1, hI529.2.2.2.2.2.2.2.2.2.2.2.2.2.2.2.2.2.2.2.2.2.2.2.2.1, hI529.2.2.2.2.2.2.2.2.2.2.2.2.2.2.2.2.2.2.2.2.2.2.2.2.2.1, hI529.2.2.2.2.2.2.2.2.2.2.2.2.2.2.2.2.2.2.2.2.2.2.2.2.2.2.1, hI529.2.2.2.2.2.2.2.2.2.2.2.2.2.2.2.2.2.2.2.2.2.2.2.2.2.2.2.1, hI529.2.2.2.2.2.2.2.2.2.2.2.2.2.2.2.2.2.2.2.2.2.2.2.2.2.2.2.2.1, hI529.2.2.2.2.2.2.2.2.2.2.2.2.2.2.2.2.2.2.2.2.2.2.2.2.2.2.2.2.2.1, hI529.2.2.2.2.2.2.2.2.2.2.2.2.2.2.2.2.2.2.2.2.2.2.2.2.2.2.2.2.2.2.1, hI529.2.2.2.2.2.2.2.2.2.2.2.2.2.2.2.2.2.2.2.2.2.2.2.2.2.2.2.2.2.2.2.1, hI529.2.2.2.2.2.2.2.2.2.2.2.2.2.2.2.2.2.2.2.2.2.2.2.2.2.2.2.2.2.2.2.2.1, rfl, rfl, rfl, rfl, rfl, rfl, rfl, rfl, rfl, rfl, rfl, rfl, rfl, rfl, rfl, rfl, rfl, rfl, hI529.2.2.2.2.2.2.2.2.2.2.2.2.2.2.2.2.2.2.2.2.2.2.2.2.2.2.2.2.2.2.2.2.2.2.2.2.2.2.2.2.2.2.2.2.2.2.2.2.2.2.2.1, hI529.2.2.2.2.2.2.2.2.2.2.2.2.2.2.2.2.2.2.2.2.2.2.2.2.2.2.2.2.2.2.2.2.2.2.2.2.2.2.2.2.2.2.2.2.2.2.2.2.2.2.2.2.1, hI529.2.2.2.2.2.2.2.2.2.2.2.2.2.2.2.2.2.2.2.2.2.2.2.2.2.2.2.2.2.2.2.2.2.2.2.2.2.2.2.2.2.2.2.2.2.2.2.2.2.2.2.2.2.1, hI529.2.2.2.2.2.2.2.2.2.2.2.2.2.2.2.2.2.2.2.2.2.2.2.2.2.2.2.2.2.2.2.2.2.2.2.2.2.2.2.2.2.2.2.2.2.2.2.2.2.2.2.2.2.2.1, rfl⟩ ?_
 have st592 : St Z w0 w533 (Blk b530 47 [(vs 122), (vs 121), (.int .i8 (2)), (ii 0)] :: Blk b225 47 [(vs 122), (vs 121), (.int .i8 (2)), (ii 0)] :: Mp Value.string (Value.int .i32) b188 ([((⟨#[122]⟩ : ByteArray), 1)] : List (ByteArray × Int)) :: Blk b155 47 [(vs 121), (vs 120), (.int .i8 (1)), (ii 1)] :: Mp Value.string (Value.int .i64) ib47 ([((⟨#[120]⟩ : ByteArray), 0), ((⟨#[121]⟩ : ByteArray), 1), ((⟨#[122]⟩ : ByteArray), 2)] : List (ByteArray × Int)) :: Blk og48 68 (cx [(sl p151 1 c152), (sl p254 1 c255), (sl p357 1 c358)] ox50) :: Blk p151 9 (cx [(vs 120)] e153) :: Blk p254 9 (cx [(vs 121)] e256) :: Blk p357 9 (cx [(vs 122)] e359) :: Mp Value.string (fun v : Value => v) mb37 ([((⟨#[122]⟩ : ByteArray), (sl g38 2 cap39)), ((⟨#[121]⟩ : ByteArray), (sl g41 1 cap42)), ((⟨#[120]⟩ : ByteArray), vn)] : List (ByteArray × Value)) :: Blk g38 9 (cx [(vs 121), (vs 122)] ex40) :: Blk g41 9 (cx [(vs 120)] ex43) :: Blk g30 47 (cx [(vs 122), (vs 121), (.int .i8 (2)), (ii 0), (vs 122), (vs 122), (.int .i8 (1)), (ii 0), (vs 121), (vs 120), (.int .i8 (1)), (ii 1)] ex32) :: Blk b1 27 [(sl rb 2 2)] :: L) := (St.selD 15 [0, 2, 3, 4, 5, 6, 7, 8, 9, 10, 11, 12, 13, 14] rfl rfl (by decide) st534)
 intro ρ535 hI593
 refine UL.go ?_
 refine Wsr ?_
 refine W1 (OpT.lit (b := (decide ((1 : Int) < (3 : Int)))) (c := true) (by decide) (fun hk => OpT.ilt .i64 (1) (3) hI593.2.2.2.2.2.2.2.2.2.2.2.2.2.2.2.2.2.2.2.2.2.2.2.2.2.2.2.2.2.2.2.2.2.1 hI593.2.2.2.2.2.2.2.2.2.2.2.2.2.2.2.2.2.2.2.2.2.2.2.2.2.2.2.2.2.2.2.2.1 hk) ?_)
 refine Wnt ?_
 refine WC.seq ?_
 refine WC.condT rfl ?_
 refine WC.skip ?_
 refine thenQ_n ?_
 refine WC.seq ?_
 refine WC.block ?_
 refine Wsr ?_
 refine W1 (OpT.idx 4 ⟨g30, 0, none⟩ ⟨g30, 4, none⟩ 3 cap31 .i64 1 tu24 ts47 hI593.2.2.2.2.2.2.2.2.2.2.2.2.2.2.2.2.2.2.2.2.2.2.2.2.2.2.2.2.2.2.2.1 hI593.2.2.2.2.2.2.2.2.2.2.2.2.2.2.2.2.2.2.2.2.2.2.2.2.2.2.2.2.2.2.2.2.2.1 (by decide) (by decide) rfl ?_)
 refine W1 (OpT.loadA ⟨g30, 4, none⟩ 4 [(vs 122), (vs 122), (.int .i8 (1)), (ii 0)] ta47 ts47 rfl ((st592.rowB (i := 12) rfl).part 4 4) rfl ?_)
 refine W1 (OpT.alloc st592 (.agg #[ve, ve, (.int .i8 (0)), (ii 0)]) [ve, ve, (.int .i8 (0)), (ii 0)] tz47 rfl (fun b594 w595 st596 => ?_))
 refine WL.stepN (OpT.storeA st596 0 4 [(vs 122), (vs 122), (.int .i8 (1)), (ii 0)] rfl ts47 rfl rfl rfl rfl rfl (fun w597 st598 => ?_))
 refine Wns ?_
 refine W1 (OpT.move (.map (some b188)) hI593.2.2.2.2.2.1 ?_)
 refine W1 (OpT.field 1 ⟨b594, 0, none⟩ ⟨b594, 1, none⟩ tf47_1 rfl rfl ?_)
 refine W1 (OpT.loadS ⟨b594, 1, none⟩ (vs 122) ta9 rfl (st598.cellB (i := 0) rfl rfl) ?_)
 refine W1 (OpT.litV (v := (.int .i32 (((mget ([((⟨#[122]⟩ : ByteArray), 1)] : List (ByteArray × Int)) (⟨#[122]⟩ : ByteArray)).getD 0)))) (v' := (.int .i32 (1))) (by simp [mget_cons, mget_nil]) (fun hk => OpT.lookupI st598 3 rfl ko9 tu103 tz21 ((⟨#[122]⟩ : ByteArray)) rfl rfl hk) ?_)
 refine W1 (OpT.assign (.int .i32 (1)) rfl ?_)
 refine Wnt ?_
 refine WC.seq ?_
 refine Wsr ?_
 refine W1 (OpT.field 2 ⟨b594, 0, none⟩ ⟨b594, 2, none⟩ tf47_2 rfl rfl ?_)
 refine W1 (OpT.loadS ⟨b594, 2, none⟩ (.int .i8 (1)) ta45 rfl (st598.cellB (i := 0) rfl rfl) ?_)
 refine W1 (OpT.lit (b := (decide ((1 : Int) ≠ (1 : Int)))) (c := false) (by decide) (fun hk => OpT.ine .i8 (1) (1) rfl rfl hk) ?_)
 refine Wnt ?_
 refine WC.condF rfl ?_
 refine WC.skip ?_
 refine thenQ_n ?_
 refine Wsr ?_
 refine W1 (OpT.move (.map (some b188)) hI593.2.2.2.2.2.1 ?_)
 refine W1 (OpT.field 0 ⟨b594, 0, none⟩ ⟨b594, 0, none⟩ tf47_0 rfl rfl ?_)
 refine W1 (OpT.loadS ⟨b594, 0, none⟩ (vs 122) ta9 rfl (st598.cellB (i := 0) rfl rfl) ?_)
 refine W1 (OpT.litV (v := (.int .i32 (((mget ([((⟨#[122]⟩ : ByteArray), 1)] : List (ByteArray × Int)) (⟨#[122]⟩ : ByteArray)).getD 0)))) (v' := (.int .i32 (1))) (by simp [mget_cons, mget_nil]) (fun hk => OpT.lookupI st598 3 rfl ko9 tu103 tz21 ((⟨#[122]⟩ : ByteArray)) rfl rfl hk) ?_)
 refine W1 (OpT.move (.int .i32 (1)) rfl ?_)
 refine W1 (OpT.lit (b := (decide ((1 : Int) < (1 : Int)))) (c := false) (by decide) (fun hk => OpT.ilt .i32 (1) (1) rfl rfl hk) ?_)
 refine Wnt ?_
 refine WC.condF rfl ?_
 refine WC.skip ?_
 refine blkQ_n ?_
 refine thenQ_n ?_
 refine WC.region ?_
 refine W1 (OpT.iadd .i64 (1) (1) (2) hI593.2.2.2.2.2.2.2.2.2.2.2.2.2.2.2.2.2.2.2.2.2.2.2.2.2.2.2.2.2.2.2.2.2.1 rfl (by decide) ?_)
 refine W1 (OpT.move (ii 2) rfl ?_)
 refine WL.nil ?_
 refine unrQ_n ?_
 refine UL.cut (fun r => r 1 = (pt b1 0) ∧ r 5 = (sl g30 3 cap31) ∧ r 6 = (.map (some mb37)) ∧ r 7 = (.map (some ib47)) ∧ r 10 = (pt b155 0) ∧ r 11 = (.map (some b188)) ∧ r 12 = (.bool false) ∧ r 14 = (pt b594 0) ∧ r 15 = (.int .i32 (1)) ∧ r 19 = (.agg #[(sl rb 2 2)]) ∧ r 20 = (sl g30 3 cap31) ∧ r 21 = (.agg #[(sl rb 2 2)]) ∧ r 22 = (.map (some mb37)) ∧ r 23 = (.tuple #[(.map (some ib47)), (sl og48 3 oc49)]) ∧ r 24 = (.map (some mb37)) ∧ r 25 = (.tuple #[(.map (some ib47)), (sl og48 3 oc49)]) ∧ r 26 = (.map (some ib47)) ∧ r 27 = (sl og48 3 oc49) ∧ r 28 = (sl g30 3 cap31) ∧ r 29 = (ii 3) ∧ r 30 = (ii 3) ∧ r 31 = (.bool false) ∧ r 32 = (pt g30 8) ∧ r 33 = (.agg #[(vs 121), (vs 120), (.int .i8 (1)), (ii 1)]) ∧ r 34 = (pt b155 2) ∧ r 35 = (.int .i8 (1)) ∧ r 36 = (.bool true) ∧ r 37 = (.bool true) ∧ r 47 = (.bool true) ∧ r 60 = (ii 3) ∧ r 61 = (.map (some b188)) ∧ r 62 = (sl g30 3 cap31) ∧ r 63 = (ii 3) ∧ r 64 = (ii 2) ∧ r 66 = (pt g30 4) ∧ r 67 = (.agg #[(vs 122), (vs 122), (.int .i8 (1)), (ii 0)]) ∧ r 68 = (.map (some b188)) ∧ r 69 = (pt b594 1) ∧ r 70 = (vs 122) ∧ r 71 = (.int .i32 (1)) ∧ r 72 = (pt b594 2) ∧ r 73 = (.int .i8 (1)) ∧ r 74 = (.bool false) ∧ r 75 = (.int .i32 (0)) ∧ r 76 = (.int .i32 (1)) ∧ r 77 = (.map (some b188)) ∧ r 78 = (pt b594 0) ∧ r 79 = (vs 122) ∧ r 80 = (.int .i32 (1)) ∧ r 81 = (.int .i32 (1)) ∧ r 82 = (.bool false) ∧ r 83 = (.map (some b188)) ∧ r 84 = (pt b225 0) ∧ r 85 = (vs 122) ∧ r 86 = (.int .i32 (1)) ∧ r 87 = (ii 2)) ⟨hI593.1, hI593.2.1, hI593.2.2.1, hI593.2.2.2.1, hI593.2.2.2.2.1, hI593.2.2.2.2.2.1, hI593.2.2.2.2.2.2.1, rfl, rfl, hI593.2.2.2.2.2.2.2.2.2.1, hI593.2.2.2.2.2.2.2.2.2.2.1, hI593.2.2.2.2.2.2.2.2.2.2.2.1, hI593.2.2.2.2.2.2.2.2.2.2.2.2.1, hI593.2.2.2.2.2.2.2.2.2.2.2.2.2.1, hI593.2.2.2.2.2.2.2.2.2.2.2.2.2.2.1, hI593.2.2.2.2.2.2.2.2.2.2.2.2.2.2.2.1, hI593.2.2.2.2.2.2.2.2.2.2.2.2.2.2.2.2.1, hI593.2.2.2.2.2.2.2.2.2.2.2.2.2.2.2.2.2.1, hI593.2.2.2.2.2.2.2.2.2.2.2.2.2.2.2.2.2.2.1, hI593.2.2.2.2.2.2.2.2.2.2.2.2.2.2.2.2.2.2.2.1, hI593.2.2.2.2.2.2.2.2.2.2.2.2.2.2.2.2.2.2.2.2.1, hI593.2.2.2.2.2.2.2.2.2.2.2.2.2.2.2.2.2.2.2.2.2.1, hI593.2.2.2.2.2.2.2.2.2.2.2.2.2.2.2.2.2.2.2.2.2.2.1, hI593.2.2.2.2.2.2.2.2.2.2.2.2.2.2.2.2.2.2.2.2.2.2.2.1, hI593.2.2.2.2.2.2.2.2.2.2.2.2.2.2.2.2.2.2.2.2.2.2.2.2.1, hI593.2.2.2.2.2.2.2.2.2.2.2.2.2.2.2.2.2.2.2.2.2.2.2.2.2.1, hI593.2.2.2.2.2.2.2.2.2.2.2.2.2.2.2.2.2.2.2.2.2.2.2.2.2.2.1, hI593.2.2.2.2.2.2.2.2.2.2.2.2.2.2.2.2.2.2.2.2.2.2.2.2.2.2.2.1, hI593.2.2.2.2.2.2.2.2.2.2.2.2.2.2.2.2.2.2.2.2.2.2.2.2.2.2.2.2.1, hI593.2.2.2.2.2.2.2.2.2.2.2.2.2.2.2.2.2.2.2.2.2.2.2.2.2.2.2.2.2.1, hI593.2.2.2.2.2.2.2.2.2.2.2.2.2.2.2.2.2.2.2.2.2.2.2.2.2.2.2.2.2.2.1, hI593.2.2.2.2.2.2.2.2.2.2.2.2.2.2.2.2.2.2.2.2.2.2.2.2.2.2.2.2.2.2.2.1, hI593.2.2.2.2.2.2.2.2.2.2.2.2.2.2.2.2.2.2.2.2.2.2.2.2.2.2.2.2.2.2.2.2.1, rfl, rfl, rfl, rfl, rfl, rfl, rfl, rfl, rfl, rfl, hI593.2.2.2.2.2.2.2.2.2.2.2.2.2.2.2.2.2.2.2.2.2.2.2.2.2.2.2.2.2.2.2.2.2.2.2.2.2.2.2.2.2.2.2.1, hI593.2.2.2.2.2.2.2.2.2.2.2.2.2.2.2.2.2.2.2.2.2.2.2.2.2.2.2.2.2.2.2.2.2.2.2.2.2.2.2.2.2.2.2.2.1, rfl, rfl, rfl, rfl, rfl, rfl, hI593.2.2.2.2.2.2.2.2.2.2.2.2.2.2.2.2.2.2.2.2.2.2.2.2.2.2.2.2.2.2.2.2.2.2.2.2.2.2.2.2.2.2.2.2.2.2.2.2.2.2.2.1, hI593.2.2.2.2.2.2.2.2.2.2.2.2.2.2.2.2.2.2.2.2.2.2.2.2.2.2.2.2.2.2.2.2.2.2.2.2.2.2.2.2.2.2.2.2.2.2.2.2.2.2.2.2.1, hI593.2.2.2.2.2.2.2.2.2.2.2.2.2.2.2.2.2.2.2.2.2.2.2.2.2.2.2.2.2.2.2.2.2.2.2.2.2.2.2.2.2.2.2.2.2.2.2.2.2.2.2.2.2.1, hI593.2.2.2.2.2.2.2.2.2.2.2.2.2.2.2.2.2.2.2.2.2.2.2.2.2.2.2.2.2.2.2.2.2.2.2.2.2.2.2.2.2.2.2.2.2.2.2.2.2.2.2.2.2.2.1, rfl⟩ ?_
 have st656 : St Z w0 w597 (Blk b594 47 [(vs 122), (vs 122), (.int .i8 (1)), (ii 0)] :: Blk b225 47 [(vs 122), (vs 121), (.int .i8 (2)), (ii 0)] :: Mp Value.string (Value.int .i32) b188 ([((⟨#[122]⟩ : ByteArray), 1)] : List (ByteArray × Int)) :: Blk b155 47 [(vs 121), (vs 120), (.int .i8 (1)), (ii 1)] :: Mp Value.string (Value.int .i64) ib47 ([((⟨#[120]⟩ : ByteArray), 0), ((⟨#[121]⟩ : ByteArray), 1), ((⟨#[122]⟩ : ByteArray), 2)] : List (ByteArray × Int)) :: Blk og48 68 (cx [(sl p151 1 c152), (sl p254 1 c255), (sl p357 1 c358)] ox50) :: Blk p151 9 (cx [(vs 120)] e153) :: Blk p254 9 (cx [(vs 121)] e256) :: Blk p357 9 (cx [(vs 122)] e359) :: Mp Value.string (fun v : Value => v) mb37 ([((⟨#[122]⟩ : ByteArray), (sl g38 2 cap39)), ((⟨#[121]⟩ : ByteArray), (sl g41 1 cap42)), ((⟨#[120]⟩ : ByteArray), vn)] : List (ByteArray × Value)) :: Blk g38 9 (cx [(vs 121), (vs 122)] ex40) :: Blk g41 9 (cx [(vs 120)] ex43) :: Blk g30 47 (cx [(vs 122), (vs 121), (.int .i8 (2)), (ii 0), (vs 122), (vs 122), (.int .i8 (1)), (ii 0), (vs 121), (vs 120), (.int .i8 (1)), (ii 1)] ex32) :: Blk b1 27 [(sl rb 2 2)] :: L) := (St.selD 15 [0, 2, 3, 4, 5, 6, 7, 8, 9, 10, 11, 12, 13, 14] rfl rfl (by decide) st598)
 intro ρ599 hI657
 refine UL.go ?_
 refine Wsr ?_
 refine W1 (OpT.lit (b := (decide ((2 : Int) < (3 : Int)))) (c := true) (by decide) (fun hk => OpT.ilt .i64 (2) (3) hI657.2.2.2.2.2.2.2.2.2.2.2.2.2.2.2.2.2.2.2.2.2.2.2.2.2.2.2.2.2.2.2.2.2.1 hI657.2.2.2.2.2.2.2.2.2.2.2.2.2.2.2.2.2.2.2.2.2.2.2.2.2.2.2.2.2.2.2.2.1 hk) ?_)
 refine Wnt ?_
 refine WC.seq ?_
 refine WC.condT rfl ?_
 refine WC.skip ?_
 refine thenQ_n ?_
 refine WC.seq ?_
 refine WC.block ?_
 refine Wsr ?_
 refine W1 (OpT.idx 4 ⟨g30, 0, none⟩ ⟨g30, 8, none⟩ 3 cap31 .i64 2 tu24 ts47 hI657.2.2.2.2.2.2.2.2.2.2.2.2.2.2.2.2.2.2.2.2.2.2.2.2.2.2.2.2.2.2.2.1 hI657.2.2.2.2.2.2.2.2.2.2.2.2.2.2.2.2.2.2.2.2.2.2.2.2.2.2.2.2.2.2.2.2.2.1 (by decide) (by decide) rfl ?_)
 refine W1 (OpT.loadA ⟨g30, 8, none⟩ 4 [(vs 121), (vs 120), (.int .i8 (1)), (ii 1)] ta47 ts47 rfl ((st656.rowB (i := 12) rfl).part 8 4) rfl ?_)
 refine W1 (OpT.alloc st656 (.agg #[ve, ve, (.int .i8 (0)), (ii 0)]) [ve, ve, (.int .i8 (0)), (ii 0)] tz47 rfl (fun b658 w659 st660 => ?_))
 refine WL.stepN (OpT.storeA st660 0 4 [(vs 121), (vs 120), (.int .i8 (1)), (ii 1)] rfl ts47 rfl rfl rfl rfl rfl (fun w661 st662 => ?_))
 refine Wns ?_
 refine W1 (OpT.move (.map (some b188)) hI657.2.2.2.2.2.1 ?_)
 refine W1 (OpT.field 1 ⟨b658, 0, none⟩ ⟨b658, 1, none⟩ tf47_1 rfl rfl ?_)
 refine W1 (OpT.loadS ⟨b658, 1, none⟩ (vs 120) ta9 rfl (st662.cellB (i := 0) rfl rfl) ?_)
 refine W1 (OpT.litV (v := (.int .i32 (((mget ([((⟨#[122]⟩ : ByteArray), 1)] : List (ByteArray × Int)) (⟨#[120]⟩ : ByteArray)).getD 0)))) (v' := (.int .i32 (0))) (by simp [mget_cons, mget_nil]) (fun hk => OpT.lookupI st662 3 rfl ko9 tu103 tz21 ((⟨#[120]⟩ : ByteArray)) rfl rfl hk) ?_)
 refine W1 (OpT.assign (.int .i32 (0)) rfl ?_)
 refine Wnt ?_
 refine WC.seq ?_
 refine Wsr ?_
 refine W1 (OpT.field 2 ⟨b658, 0, none⟩ ⟨b658, 2, none⟩ tf47_2 rfl rfl ?_)
 refine W1 (OpT.loadS ⟨b658, 2, none⟩ (.int .i8 (1)) ta45 rfl (st662.cellB (i := 0) rfl rfl) ?_)
 refine W1 (OpT.lit (b := (decide ((1 : Int) ≠ (1 : Int)))) (c := false) (by decide) (fun hk => OpT.ine .i8 (1) (1) rfl rfl hk) ?_)
 refine Wnt ?_
 refine WC.condF rfl ?_
 refine WC.skip ?_
 refine thenQ_n ?_
 refine Wsr ?_
 refine W1 (OpT.move (.map (some b188)) hI657.2.2.2.2.2.1 ?_)
 refine W1 (OpT.field 0 ⟨b658, 0, none⟩ ⟨b658, 0, none⟩ tf47_0 rfl rfl ?_)
 refine W1 (OpT.loadS ⟨b658, 0, none⟩ (vs 121) ta9 rfl (st662.cellB (i := 0) rfl rfl) ?_)
 refine W1 (OpT.litV (v := (.int .i32 (((mget ([((⟨#[122]⟩ : ByteArray), 1)] : List (ByteArray × Int)) (⟨#[121]⟩ : ByteArray)).getD 0)))) (v' := (.int .i32 (0))) (by simp [mget_cons, mget_nil]) (fun hk => OpT.lookupI st662 3 rfl ko9 tu103 tz21 ((⟨#[121]⟩ : ByteArray)) rfl rfl hk) ?_)
 refine W1 (OpT.move (.int .i32 (0)) rfl ?_)
 refine W1 (OpT.lit (b := (decide ((0 : Int) < (0 : Int)))) (c := false) (by decide) (fun hk => OpT.ilt .i32 (0) (0) rfl rfl hk) ?_)
 refine Wnt ?_
 refine WC.condF rfl ?_
 refine WC.skip ?_
 refine blkQ_n ?_
 refine thenQ_n ?_
 refine WC.region ?_
 refine W1 (OpT.iadd .i64 (2) (1) (3) hI657.2.2.2.2.2.2.2.2.2.2.2.2.2.2.2.2.2.2.2.2.2.2.2.2.2.2.2.2.2.2.2.2.2.1 rfl (by decide) ?_)
 refine W1 (OpT.move (ii 3) rfl ?_)
 refine WL.nil ?_
 refine unrQ_n ?_
 refine UL.cut (fun r => r 1 = (pt b1 0) ∧ r 5 = (sl g30 3 cap31) ∧ r 6 = (.map (some mb37)) ∧ r 7 = (.map (some ib47)) ∧ r 10 = (pt b155 0) ∧ r 11 = (.map (some b188)) ∧ r 12 = (.bool false) ∧ r 14 = (pt b658 0) ∧ r 15 = (.int .i32 (0)) ∧ r 19 = (.agg #[(sl rb 2 2)]) ∧ r 20 = (sl g30 3 cap31) ∧ r 21 = (.agg #[(sl rb 2 2)]) ∧ r 22 = (.map (some mb37)) ∧ r 23 = (.tuple #[(.map (some ib47)), (sl og48 3 oc49)]) ∧ r 24 = (.map (some mb37)) ∧ r 25 = (.tuple #[(.map (some ib47)), (sl og48 3 oc49)]) ∧ r 26 = (.map (some ib47)) ∧ r 27 = (sl og48 3 oc49) ∧ r 28 = (sl g30 3 cap31) ∧ r 29 = (ii 3) ∧ r 30 = (ii 3) ∧ r 31 = (.bool false) ∧ r 32 = (pt g30 8) ∧ r 33 = (.agg #[(vs 121), (vs 120), (.int .i8 (1)), (ii 1)]) ∧ r 34 = (pt b155 2) ∧ r 35 = (.int .i8 (1)) ∧ r 36 = (.bool true) ∧ r 37 = (.bool true) ∧ r 47 = (.bool true) ∧ r 60 = (ii 3) ∧ r 61 = (.map (some b188)) ∧ r 62 = (sl g30 3 cap31) ∧ r 63 = (ii 3) ∧ r 64 = (ii 3) ∧ r 66 = (pt g30 8) ∧ r 67 = (.agg #[(vs 121), (vs 120), (.int .i8 (1)), (ii 1)]) ∧ r 68 = (.map (some b188)) ∧ r 69 = (pt b658 1) ∧ r 70 = (vs 120) ∧ r 71 = (.int .i32 (0)) ∧ r 72 = (pt b658 2) ∧ r 73 = (.int .i8 (1)) ∧ r 74 = (.bool false) ∧ r 75 = (.int .i32 (0)) ∧ r 76 = (.int .i32 (1)) ∧ r 77 = (.map (some b188)) ∧ r 78 = (pt b658 0) ∧ r 79 = (vs 121) ∧ r 80 = (.int .i32 (0)) ∧ r 81 = (.int .i32 (0)) ∧ r 82 = (.bool false) ∧ r 83 = (.map (some b188)) ∧ r 84 = (pt b225 0) ∧ r 85 = (vs 122) ∧ r 86 = (.int .i32 (1)) ∧ r 87 = (ii 3)) ⟨hI657.1, hI657.2.1, hI657.2.2.1, hI657.2.2.2.1, hI657.2.2.2.2.1, hI657.2.2.2.2.2.1, hI657.2.2.2.2.2.2.1, rfl, rfl, hI657.2.2.2.2.2.2.2.2.2.1, hI657.2.2.2.2.2.2.2.2.2.2.1, hI657.2.2.2.2.2.2.2.2.2.2.2.1, hI657.2.2.2.2.2.2.2.2.2.2.2.2.1, hI657.2.2.2.2.2.2.2.2.2.2.2.2.2.1, hI657.2.2.2.2.2.2.2.2.2.2.2.2.2.2.1, hI657.2.2.2.2.2.2.2.2.2.2.2.2.2.2.2.1, hI657.2.2.2.2.2.2.2.2.2.2.2.2.2.2.2.2.1, hI657.2.2.2.2.2.2.2.2.2.2.2.2.2.2.2.2.2.1, hI657.2.2.2.2.2.2.2.2.2.2.2.2.2.2.2.2.2.2.1, hI657.2.2.2.2.2.2.2.2.2.2.2.2.2.2.2.2.2.2.2.1, hI657.2.2.2.2.2.2.2.2.2.2.2.2.2.2.2.2.2.2.2.2.1, hI657.2.2.2.2.2.2.2.2.2.2.2.2.2.2.2.2.2.2.2.2.2.1, hI657.2.2.2.2.2.2.2.2.2.2.2.2.2.2.2.2.2.2.2.2.2.2.1, hI657.2.2.2.2.2.2.2.2.2.2.2.2.2.2.2.2.2.2.2.2.2.2.2.1, hI657.2.2.2.2.2.2.2.2.2.2.2.2.2.2.2.2.2.2.2.2.2.2.2.2.1, hI657.2.2.2.2.2.2.2.2.2.2.2.2.2.2.2.2.2.2.2.2.2.2.2.2.2.1, hI657.2.2.2.2.2.2.2.2.2.2.2.2.2.2.2.2.2.2.2.2.2.2.2.2.2.2.1, hI657.2.2.2.2.2.2.2.2.2.2.2.2.2.2.2.2.2.2.2.2.2.2.2.2.2.2.2.1, hI657.2.2.2.2.2.2.2.2.2.2.2.2.2.2.2.2.2.2.2.2.2.2.2.2.2.2.2.2.1, hI657.2.2.2.2.2.2.2.2.2.2.2.2.2.2.2.2.2.2.2.2.2.2.2.2.2.2.2.2.2.1, hI657.2.2.2.2.2.2.2.2.2.2.2.2.2.2.2.2.2.2.2.2.2.2.2.2.2.2.2.2.2.2.1, hI657.2.2.2.2.2.2.2.2.2.2.2.2.2.2.2.2.2.2.2.2.2.2.2.2.2.2.2.2.2.2.2.1, hI657.2.2.2.2.2.2.2.2.2.2.2.2.2.2.2.2.2.2.2.2.2.2.2.2.2.2.2.2.2.2.2.2.1, rfl, rfl, rfl, rfl, rfl, rfl, rfl, rfl, rfl, rfl, hI657.2.2.2.2.2.2.2.2.2.2.2.2.2.2.2.2.2.2.2.2.2.2.2.2.2.2.2.2.2.2.2.2.2.2.2.2.2.2.2.2.2.2.2.1, hI657.2.2.2.2.2.2.2.2.2.2.2.2.2.2.2.2.2.2.2.2.2.2.2.2.2.2.2.2.2.2.2.2.2.2.2.2.2.2.2.2.2.2.2.2.1, rfl, rfl, rfl, rfl, rfl, rfl, hI657.2.2.2.2.2.2.2.2.2.2.2.2.2.2.2.2.2.2.2.2.2.2.2.2.2.2.2.2.2.2.2.2.2.2.2.2.2.2.2.2.2.2.2.2.2.2.2.2.2.2.2.1, hI657.2.2.2.2.2.2.2.2.2.2.2.2.2.2.2.2.2.2.2.2.2.2.2.2.2.2.2.2.2.2.2.2.2.2.2.2.2.2.2.2.2.2.2.2.2.2.2.2.2.2.2.2.1, hI657.2.2.2.2.2.2.2.2.2.2.2.2.2.2.2.2.2.2.2.2.2.2.2.2.2.2.2.2.2.2.2.2.2.2.2.2.2.2.2.2.2.2.2.2.2.2.2.2.2.2.2.2.2.1, hI657.2.2.2.2.2.2.2.2.2.2.2.2.2.2.2.2.2.2.2.2.2.2.2.2.2.2.2.2.2.2.2.2.2.2.2.2.2.2.2.2.2.2.2.2.2.2.2.2.2.2.2.2.2.2.1, rfl⟩ ?_
 have st720 : St Z w0 w661 (Blk b658 47 [(vs 121), (vs 120), (.int .i8 (1)), (ii 1)] :: Blk b225 47 [(vs 122), (vs 121), (.int .i8 (2)), (ii 0)] :: Mp Value.string (Value.int .i32) b188 ([((⟨#[122]⟩ : ByteArray), 1)] : List (ByteArray × Int)) :: Blk b155 47 [(vs 121), (vs 120), (.int .i8 (1)), (ii 1)] :: Mp Value.string (Value.int .i64) ib47 ([((⟨#[120]⟩ : ByteArray), 0), ((⟨#[121]⟩ : ByteArray), 1), ((⟨#[122]⟩ : ByteArray), 2)] : List (ByteArray × Int)) :: Blk og48 68 (cx [(sl p151 1 c152), (sl p254 1 c255), (sl p357 1 c358)] ox50) :: Blk p151 9 (cx [(vs 120)] e153) :: Blk p254 9 (cx [(vs 121)] e256) :: Blk p357 9 (cx [(vs 122)] e359) :: Mp Value.string (fun v : Value => v) mb37 ([((⟨#[122]⟩ : ByteArray), (sl g38 2 cap39)), ((⟨#[121]⟩ : ByteArray), (sl g41 1 cap42)), ((⟨#[120]⟩ : ByteArray), vn)] : List (ByteArray × Value)) :: Blk g38 9 (cx [(vs 121), (vs 122)] ex40) :: Blk g41 9 (cx [(vs 120)] ex43) :: Blk g30 47 (cx [(vs 122), (vs 121), (.int .i8 (2)), (ii 0), (vs 122), (vs 122), (.int .i8 (1)), (ii 0), (vs 121), (vs 120), (.int .i8 (1)), (ii 1)] ex32) :: Blk b1 27 [(sl rb 2 2)] :: L) := (St.selD 15 [0, 2, 3, 4, 5, 6, 7, 8, 9, 10, 11, 12, 13, 14] rfl rfl (by decide) st662)
 intro ρ663 hI721
 refine UL.go ?_
 refine Wsr ?_
 refine W1 (OpT.lit (b := (decide ((3 : Int) < (3 : Int)))) (c := false) (by decide) (fun hk => OpT.ilt .i64 (3) (3) hI721.2.2.2.2.2.2.2.2.2.2.2.2.2.2.2.2.2.2.2.2.2.2.2.2.2.2.2.2.2.2.2.2.2.1 hI721.2.2.2.2.2.2.2.2.2.2.2.2.2.2.2.2.2.2.2.2.2.2.2.2.2.2.2.2.2.2.2.2.1 hk) ?_)
 refine Wnt ?_
 refine WC.seq ?_
 refine WC.condF rfl ?_
 refine WC.exit ?_
 refine thenQ_x ?_
 refine unrQ_x ?_
 refine blkQ_hit ?_
 refine thenQ_n ?_
 refine WC.seq ?_
 refine Wsr ?_
 refine W1 (OpT.move (.bool false) hI721.2.2.2.2.2.2.1 ?_)
 refine Wnt ?_
 refine WC.condF rfl ?_
 refine WC.skip ?_
 refine thenQ_n ?_
 refine Wsr ?_
 refine W1 (OpT.assign vn rfl ?_)
 refine Wnt ?_
 refine WC.seq ?_
 refine Wsr ?_
 refine W1 (OpT.move (.map (some mb37)) hI721.2.2.1 ?_)
 refine W1 (OpT.callS cal37 [] [] [(.map (some mb37))] rfl (ca1 rfl) (names_spec (m := ([((⟨#[122]⟩ : ByteArray), (sl g38 2 cap39)), ((⟨#[121]⟩ : ByteArray), (sl g41 1 cap42)), ((⟨#[120]⟩ : ByteArray), vn)] : List (ByteArray × Value))) (St.selD 14 [9, 0, 1, 2, 3, 4, 5, 6, 7, 8, 10, 11, 12, 13] rfl rfl (by decide) st720) (fun p hp => (show ∀ k ∈ ([(⟨#[122]⟩ : ByteArray), (⟨#[121]⟩ : ByteArray), (⟨#[120]⟩ : ByteArray)] : List ByteArray), k.size ≤ maxLen from by decide) p.1 (List.mem_map_of_mem hp)) (show ([(⟨#[122]⟩ : ByteArray), (⟨#[121]⟩ : ByteArray), (⟨#[120]⟩ : ByteArray)] : List ByteArray).Nodup from by decide) (show 3 < 1048576 by decide)) ?_)
 rintro v725 w726 ⟨o722, c723, st727⟩
 have e724 : (keyL ([((⟨#[122]⟩ : ByteArray), (sl g38 2 cap39)), ((⟨#[121]⟩ : ByteArray), (sl g41 1 cap42)), ((⟨#[120]⟩ : ByteArray), vn)] : List (ByteArray × Value))).mergeSort leB = [[120], [121], [122]] := keys_sorted
 rw [e724] at st727
 replace st727 : St Z w0 w726 (Row 9 1 v725 3 [(vs 120), (vs 121), (vs 122)] :: Mp Value.string (fun v : Value => v) mb37 ([((⟨#[122]⟩ : ByteArray), (sl g38 2 cap39)), ((⟨#[121]⟩ : ByteArray), (sl g41 1 cap42)), ((⟨#[120]⟩ : ByteArray), vn)] : List (ByteArray × Value)) :: Blk b658 47 [(vs 121), (vs 120), (.int .i8 (1)), (ii 1)] :: Blk b225 47 [(vs 122), (vs 121), (.int .i8 (2)), (ii 0)] :: Mp Value.string (Value.int .i32) b188 ([((⟨#[122]⟩ : ByteArray), 1)] : List (ByteArray × Int)) :: Blk b155 47 [(vs 121), (vs 120), (.int .i8 (1)), (ii 1)] :: Mp Value.string (Value.int .i64) ib47 ([((⟨#[120]⟩ : ByteArray), 0), ((⟨#[121]⟩ : ByteArray), 1), ((⟨#[122]⟩ : ByteArray), 2)] : List (ByteArray × Int)) :: Blk og48 68 (cx [(sl p151 1 c152), (sl p254 1 c255), (sl p357 1 c358)] ox50) :: Blk p151 9 (cx [(vs 120)] e153) :: Blk p254 9 (cx [(vs 121)] e256) :: Blk p357 9 (cx [(vs 122)] e359) :: Blk g38 9 (cx [(vs 121), (vs 122)] ex40) :: Blk g41 9 (cx [(vs 120)] ex43) :: Blk g30 47 (cx [(vs 122), (vs 121), (.int .i8 (2)), (ii 0), (vs 122), (vs 122), (.int .i8 (1)), (ii 0), (vs 121), (vs 120), (.int .i8 (1)), (ii 1)] ex32) :: Blk b1 27 [(sl rb 2 2)] :: L) := st727
 obtain ⟨g728, cap729, ex730, rfl, hE731, hc732, hm733, st734⟩ := St.openRow (n := 3) (cs := [(vs 120), (vs 121), (vs 122)]) (by decide) st727
 replace st734 : St Z w0 w726 (Blk g728 9 (cx [(vs 120), (vs 121), (vs 122)] ex730) :: Mp Value.string (fun v : Value => v) mb37 ([((⟨#[122]⟩ : ByteArray), (sl g38 2 cap39)), ((⟨#[121]⟩ : ByteArray), (sl g41 1 cap42)), ((⟨#[120]⟩ : ByteArray), vn)] : List (ByteArray × Value)) :: Blk b658 47 [(vs 121), (vs 120), (.int .i8 (1)), (ii 1)] :: Blk b225 47 [(vs 122), (vs 121), (.int .i8 (2)), (ii 0)] :: Mp Value.string (Value.int .i32) b188 ([((⟨#[122]⟩ : ByteArray), 1)] : List (ByteArray × Int)) :: Blk b155 47 [(vs 121), (vs 120), (.int .i8 (1)), (ii 1)] :: Mp Value.string (Value.int .i64) ib47 ([((⟨#[120]⟩ : ByteArray), 0), ((⟨#[121]⟩ : ByteArray), 1), ((⟨#[122]⟩ : ByteArray), 2)] : List (ByteArray × Int)) :: Blk og48 68 (cx [(sl p151 1 c152), (sl p254 1 c255), (sl p357 1 c358)] ox50) :: Blk p151 9 (cx [(vs 120)] e153) :: Blk p254 9 (cx [(vs 121)] e256) :: Blk p357 9 (cx [(vs 122)] e359) :: Blk g38 9 (cx [(vs 121), (vs 122)] ex40) :: Blk g41 9 (cx [(vs 120)] ex43) :: Blk g30 47 (cx [(vs 122), (vs 121), (.int .i8 (2)), (ii 0), (vs 122), (vs 122), (.int .i8 (1)), (ii 0), (vs 121), (vs 120), (.int .i8 (1)), (ii 1)] ex32) :: Blk b1 27 [(sl rb 2 2)] :: L) := st734
 refine W1 (OpT.litV (v := (ni 3)) (v' := (ii 3)) rfl (fun hk => OpT.lenS _ 3 cap729 rfl tu68 rfl hk) ?_)
 refine W1 (OpT.move (ii 0) rfl ?_)
 refine Wnt ?_
 refine WC.block ?_
 refine WC.unroll 12 ?_
 refine UL.cut (fun r => r 11 = (.map (some b188)) ∧ r 16 = vn ∧ r 90 = (sl g728 3 cap729) ∧ r 91 = (ii 3) ∧ r 92 = (ii 0)) ⟨hI721.2.2.2.2.2.1, rfl, rfl, rfl, rfl⟩ ?_
 have st741 : St Z w0 w726 (Blk g728 9 (cx [(vs 120), (vs 121), (vs 122)] ex730) :: Mp Value.string (Value.int .i32) b188 ([((⟨#[122]⟩ : ByteArray), 1)] : List (ByteArray × Int)) :: L) := (St.selD 15 [0, 4] rfl rfl (by decide) st734)
 intro ρ735 hI742
 refine UL.go ?_
 refine Wsr ?_
 refine W1 (OpT.lit (b := (decide ((0 : Int) < (3 : Int)))) (c := true) (by decide) (fun hk => OpT.ilt .i64 (0) (3) hI742.2.2.2.2 hI742.2.2.2.1 hk) ?_)
 refine Wnt ?_
 refine WC.seq ?_
 refine WC.condT rfl ?_
 refine WC.skip ?_
 refine thenQ_n ?_
 refine WC.seq ?_
 refine WC.block ?_
 refine Wsr ?_
 refine W1 (OpT.idx 1 ⟨g728, 0, none⟩ ⟨g728, 0, none⟩ 3 cap729 .i64 0 tu68 ts9 hI742.2.2.1 hI742.2.2.2.2 (by decide) (by decide) rfl ?_)
 refine W1 (OpT.loadS ⟨g728, 0, none⟩ (vs 120) ta9 rfl (st741.cellB (i := 0) rfl rfl) ?_)
 refine W1 (OpT.assign (vs 120) rfl ?_)
 refine Wnr ?_
 refine W1 (OpT.move vn hI742.2.1 ?_)
 refine W1 (OpT.move (vs 120) rfl ?_)
 refine W1 (OpT.move (.map (some b188)) hI742.1 ?_)
 refine W1 (OpT.move (vs 120) rfl ?_)
 refine W1 (OpT.litV (v := (.int .i32 (((mget ([((⟨#[122]⟩ : ByteArray), 1)] : List (ByteArray × Int)) (⟨#[120]⟩ : ByteArray)).getD 0)))) (v' := (.int .i32 (0))) (by simp [mget_cons, mget_nil]) (fun hk => OpT.lookupI st741 1 rfl ko9 tu103 tz21 ((⟨#[120]⟩ : ByteArray)) rfl rfl hk) ?_)
 refine W1 (OpT.build [(0, (vs 120)), (1, (.int .i32 (0)))] [(vs 120), (.int .i32 (0))] tz77 tp77 (mp2 rfl rfl) rfl ?_)
 refine W1 (OpT.buildSlice st741 [(0, (.agg #[(vs 120), (.int .i32 (0))]))] [(vs 120), (.int .i32 (0))] tu70 ts77 tz77 (mp1 rfl) (by kernel_rfl) (by decide) (fun b743 w744 st745 => ?_))
 have st746 := St.rowNil 77 2 (st745 : St Z w0 w744 (Blk b743 77 [(vs 120), (.int .i32 (0))] :: Blk g728 9 (cx [(vs 120), (vs 121), (vs 122)] ex730) :: Mp Value.string (Value.int .i32) b188 ([((⟨#[122]⟩ : ByteArray), 1)] : List (ByteArray × Int)) :: L))
 have st747 : St Z w0 w744 (Blk b743 77 [(vs 120), (.int .i32 (0))] :: Row 77 2 vn 0 [] :: Blk g728 9 (cx [(vs 120), (vs 121), (vs 122)] ex730) :: Mp Value.string (Value.int .i32) b188 ([((⟨#[122]⟩ : ByteArray), 1)] : List (ByteArray × Int)) :: L) := St.selT [Row 77 2 vn 0 [], Blk b743 77 [(vs 120), (.int .i32 (0))], Blk g728 9 (cx [(vs 120), (vs 121), (vs 122)] ex730), Mp Value.string (Value.int .i32) b188 ([((⟨#[122]⟩ : ByteArray), 1)] : List (ByteArray × Int))] [1, 0, 2, 3] rfl (by decide) st746
 refine W1 (OpT.append st747 1 tu70 ts77 tz77 rfl tb77 (by decide) rfl rfl rfl rfl (by decide) (by decide) (fun v748 w749 st750 hn751 => ?_))
 obtain ⟨g752, cap753, ex754, rfl, hE755, hc756, hm757, st758⟩ := St.openRow (n := 1) (cs := [(vs 120), (.int .i32 (0))]) (by decide) st750
 replace st758 : St Z w0 w749 (Blk g752 77 (cx [(vs 120), (.int .i32 (0))] ex754) :: Blk g728 9 (cx [(vs 120), (vs 121), (vs 122)] ex730) :: Mp Value.string (Value.int .i32) b188 ([((⟨#[122]⟩ : ByteArray), 1)] : List (ByteArray × Int)) :: L) := st758
 refine W1 (OpT.assign (sl g752 1 cap753) rfl ?_)
 refine WL.nil ?_
 refine blkQ_n ?_
 refine thenQ_n ?_
 refine WC.region ?_
 refine W1 (OpT.iadd .i64 (0) (1) (1) hI742.2.2.2.2 rfl (by decide) ?_)
 refine W1 (OpT.move (ii 1) rfl ?_)
 refine WL.nil ?_
 refine unrQ_n ?_
 refine UL.cut (fun r => r 11 = (.map (some b188)) ∧ r 16 = (sl g752 1 cap753) ∧ r 90 = (sl g728 3 cap729) ∧ r 91 = (ii 3) ∧ r 92 = (ii 1)) ⟨hI742.1, rfl, hI742.2.2.1, hI742.2.2.2.1, rfl⟩ ?_
 intro ρ759 hI765
 refine UL.go ?_
 refine Wsr ?_
 refine W1 (OpT.lit (b := (decide ((1 : Int) < (3 : Int)))) (c := true) (by decide) (fun hk => OpT.ilt .i64 (1) (3) hI765.2.2.2.2 hI765.2.2.2.1 hk) ?_)
 refine Wnt ?_
 refine WC.seq ?_
 refine WC.condT rfl ?_
 refine WC.skip ?_
 refine thenQ_n ?_
 refine WC.seq ?_
 refine WC.block ?_
 refine Wsr ?_
 refine W1 (OpT.idx 1 ⟨g728, 0, none⟩ ⟨g728, 1, none⟩ 3 cap729 .i64 1 tu68 ts9 hI765.2.2.1 hI765.2.2.2.2 (by decide) (by decide) rfl ?_)
 refine W1 (OpT.loadS ⟨g728, 1, none⟩ (vs 121) ta9 rfl (st758.cellB (i := 1) rfl rfl) ?_)
 refine W1 (OpT.assign (vs 121) rfl ?_)
 refine Wnr ?_
 refine W1 (OpT.move (sl g752 1 cap753) hI765.2.1 ?_)
 refine W1 (OpT.move (vs 121) rfl ?_)
 refine W1 (OpT.move (.map (some b188)) hI765.1 ?_)
 refine W1 (OpT.move (vs 121) rfl ?_)
 refine W1 (OpT.litV (v := (.int .i32 (((mget ([((⟨#[122]⟩ : ByteArray), 1)] : List (ByteArray × Int)) (⟨#[121]⟩ : ByteArray)).getD 0)))) (v' := (.int .i32 (0))) (by simp [mget_cons, mget_nil]) (fun hk => OpT.lookupI st758 2 rfl ko9 tu103 tz21 ((⟨#[121]⟩ : ByteArray)) rfl rfl hk) ?_)
 refine W1 (OpT.build [(0, (vs 121)), (1, (.int .i32 (0)))] [(vs 121), (.int .i32 (0))] tz77 tp77 (mp2 rfl rfl) rfl ?_)
 refine W1 (OpT.buildSlice st758 [(0, (.agg #[(vs 121), (.int .i32 (0))]))] [(vs 121), (.int .i32 (0))] tu70 ts77 tz77 (mp1 rfl) (by kernel_rfl) (by decide) (fun b766 w767 st768 => ?_))
 have st769 := St.shutRow (sz := 2) (n := 1) (cap := cap753) (cs := [(vs 120), (.int .i32 (0))]) ((St.selD 4 [1, 0, 2, 3] rfl rfl (by decide) st768) : St Z w0 w767 (Blk g752 77 (cx [(vs 120), (.int .i32 (0))] ex754) :: Blk b766 77 [(vs 121), (.int .i32 (0))] :: Blk g728 9 (cx [(vs 120), (vs 121), (vs 122)] ex730) :: Mp Value.string (Value.int .i32) b188 ([((⟨#[122]⟩ : ByteArray), 1)] : List (ByteArray × Int)) :: L)) (by simp; omega) (by omega) hm757 rfl
 have st770 : St Z w0 w767 (Blk b766 77 [(vs 121), (.int .i32 (0))] :: Row 77 2 (sl g752 1 cap753) 1 [(vs 120), (.int .i32 (0))] :: Blk g728 9 (cx [(vs 120), (vs 121), (vs 122)] ex730) :: Mp Value.string (Value.int .i32) b188 ([((⟨#[122]⟩ : ByteArray), 1)] : List (ByteArray × Int)) :: L) := St.selT [Row 77 2 (sl g752 1 cap753) 1 [(vs 120), (.int .i32 (0))], Blk b766 77 [(vs 121), (.int .i32 (0))], Blk g728 9 (cx [(vs 120), (vs 121), (vs 122)] ex730), Mp Value.string (Value.int .i32) b188 ([((⟨#[122]⟩ : ByteArray), 1)] : List (ByteArray × Int))] [1, 0, 2, 3] rfl (by decide) st769
 refine W1 (OpT.append st770 1 tu70 ts77 tz77 rfl tb77 (by decide) rfl rfl rfl rfl (by decide) (by decide) (fun v771 w772 st773 hn774 => ?_))
 obtain ⟨g775, cap776, ex777, rfl, hE778, hc779, hm780, st781⟩ := St.openRow (n := 2) (cs := [(vs 120), (.int .i32 (0)), (vs 121), (.int .i32 (0))]) (by decide) st773
 replace st781 : St Z w0 w772 (Blk g775 77 (cx [(vs 120), (.int .i32 (0)), (vs 121), (.int .i32 (0))] ex777) :: Blk g728 9 (cx [(vs 120), (vs 121), (vs 122)] ex730) :: Mp Value.string (Value.int .i32) b188 ([((⟨#[122]⟩ : ByteArray), 1)] : List (ByteArray × Int)) :: L) := st781
 refine W1 (OpT.assign (sl g775 2 cap776) rfl ?_)
 refine WL.nil ?_
 refine blkQ_n ?_
 refine thenQ_n ?_
 refine WC.region ?_
 refine W1 (OpT.iadd .i64 (1) (1) (2) hI765.2.2.2.2 rfl (by decide) ?_)
 refine W1 (OpT.move (ii 2) rfl ?_)
 refine WL.nil ?_
 refine unrQ_n ?_
 refine UL.cut (fun r => r 11 = (.map (some b188)) ∧ r 16 = (sl g775 2 cap776) ∧ r 90 = (sl g728 3 cap729) ∧ r 91 = (ii 3) ∧ r 92 = (ii 2)) ⟨hI765.1, rfl, hI765.2.2.1, hI765.2.2.2.1, rfl⟩ ?_
 intro ρ782 hI788
 refine UL.go ?_
 refine Wsr ?_
 refine W1 (OpT.lit (b := (decide ((2 : Int) < (3 : Int)))) (c := true) (by decide) (fun hk => OpT.ilt .i64 (2) (3) hI788.2.2.2.2 hI788.2.2.2.1 hk) ?_)
 refine Wnt ?_
 refine WC.seq ?_
 refine WC.condT rfl ?_
 refine WC.skip ?_
 refine thenQ_n ?_
 refine WC.seq ?_
 refine WC.block ?_
 refine Wsr ?_
 refine W1 (OpT.idx 1 ⟨g728, 0, none⟩ ⟨g728, 2, none⟩ 3 cap729 .i64 2 tu68 ts9 hI788.2.2.1 hI788.2.2.2.2 (by decide) (by decide) rfl ?_)
 refine W1 (OpT.loadS ⟨g728, 2, none⟩ (vs 122) ta9 rfl (st781.cellB (i := 1) rfl rfl) ?_)
 refine W1 (OpT.assign (vs 122) rfl ?_)
 refine Wnr ?_
 refine W1 (OpT.move (sl g775 2 cap776) hI788.2.1 ?_)
 refine W1 (OpT.move (vs 122) rfl ?_)
 refine W1 (OpT.move (.map (some b188)) hI788.1 ?_)
 refine W1 (OpT.move (vs 122) rfl ?_)
 refine W1 (OpT.litV (v := (.int .i32 (((mget ([((⟨#[122]⟩ : ByteArray), 1)] : List (ByteArray × Int)) (⟨#[122]⟩ : ByteArray)).getD 0)))) (v' := (.int .i32 (1))) (by simp [mget_cons, mget_nil]) (fun hk => OpT.lookupI st781 2 rfl ko9 tu103 tz21 ((⟨#[122]⟩ : ByteArray)) rfl rfl hk) ?_)
 refine W1 (OpT.build [(0, (vs 122)), (1, (.int .i32 (1)))] [(vs 122), (.int .i32 (1))] tz77 tp77 (mp2 rfl rfl) rfl ?_)
 refine W1 (OpT.buildSlice st781 [(0, (.agg #[(vs 122), (.int .i32 (1))]))] [(vs 122), (.int .i32 (1))] tu70 ts77 tz77 (mp1 rfl) (by kernel_rfl) (by decide) (fun b789 w790 st791 => ?_))
 have st792 := St.shutRow (sz := 2) (n := 2) (cap := cap776) (cs := [(vs 120), (.int .i32 (0)), (vs 121), (.int .i32 (0))]) ((St.selD 4 [1, 0, 2, 3] rfl rfl (by decide) st791) : St Z w0 w790 (Blk g775 77 (cx [(vs 120), (.int .i32 (0)), (vs 121), (.int .i32 (0))] ex777) :: Blk b789 77 [(vs 122), (.int .i32 (1))] :: Blk g728 9 (cx [(vs 120), (vs 121), (vs 122)] ex730) :: Mp Value.string (Value.int .i32) b188 ([((⟨#[122]⟩ : ByteArray), 1)] : List (ByteArray × Int)) :: L)) (by simp; omega) (by omega) hm780 rfl
 have st793 : St Z w0 w790 (Blk b789 77 [(vs 122), (.int .i32 (1))] :: Row 77 2 (sl g775 2 cap776) 2 [(vs 120), (.int .i32 (0)), (vs 121), (.int .i32 (0))] :: Blk g728 9 (cx [(vs 120), (vs 121), (vs 122)] ex730) :: Mp Value.string (Value.int .i32) b188 ([((⟨#[122]⟩ : ByteArray), 1)] : List (ByteArray × Int)) :: L) := St.selT [Row 77 2 (sl g775 2 cap776) 2 [(vs 120), (.int .i32 (0)), (vs 121), (.int .i32 (0))], Blk b789 77 [(vs 122), (.int .i32 (1))], Blk g728 9 (cx [(vs 120), (vs 121), (vs 122)] ex730), Mp Value.string (Value.int .i32) b188 ([((⟨#[122]⟩ : ByteArray), 1)] : List (ByteArray × Int))] [1, 0, 2, 3] rfl (by decide) st792
 refine W1 (OpT.append st793 1 tu70 ts77 tz77 rfl tb77 (by decide) rfl rfl rfl rfl (by decide) (by decide) (fun v794 w795 st796 hn797 => ?_))
 obtain ⟨g798, cap799, ex800, rfl, hE801, hc802, hm803, st804⟩ := St.openRow (n := 3) (cs := [(vs 120), (.int .i32 (0)), (vs 121), (.int .i32 (0)), (vs 122), (.int .i32 (1))]) (by decide) st796
 replace st804 : St Z w0 w795 (Blk g798 77 (cx [(vs 120), (.int .i32 (0)), (vs 121), (.int .i32 (0)), (vs 122), (.int .i32 (1))] ex800) :: Blk g728 9 (cx [(vs 120), (vs 121), (vs 122)] ex730) :: Mp Value.string (Value.int .i32) b188 ([((⟨#[122]⟩ : ByteArray), 1)] : List (ByteArray × Int)) :: L) := st804
 refine W1 (OpT.assign (sl g798 3 cap799) rfl ?_)
 refine WL.nil ?_
 refine blkQ_n ?_
 refine thenQ_n ?_
 refine WC.region ?_
 refine W1 (OpT.iadd .i64 (2) (1) (3) hI788.2.2.2.2 rfl (by decide) ?_)
 refine W1 (OpT.move (ii 3) rfl ?_)
 refine WL.nil ?_
 refine unrQ_n ?_
 refine UL.cut (fun r => r 11 = (.map (some b188)) ∧ r 16 = (sl g798 3 cap799) ∧ r 90 = (sl g728 3 cap729) ∧ r 91 = (ii 3) ∧ r 92 = (ii 3)) ⟨hI788.1, rfl, hI788.2.2.1, hI788.2.2.2.1, rfl⟩ ?_
 intro ρ805 hI811
 refine UL.go ?_
 refine Wsr ?_
 refine W1 (OpT.lit (b := (decide ((3 : Int) < (3 : Int)))) (c := false) (by decide) (fun hk => OpT.ilt .i64 (3) (3) hI811.2.2.2.2 hI811.2.2.2.1 hk) ?_)
 refine Wnt ?_
 refine WC.seq ?_
 refine WC.condF rfl ?_
 refine WC.exit ?_
 refine thenQ_x ?_
 refine unrQ_x ?_
 refine blkQ_hit ?_
 refine thenQ_n ?_
 refine Wsr ?_
 refine W1 (OpT.move (sl g798 3 cap799) hI811.2.1 ?_)
 refine W1 (OpT.assign (sl g798 3 cap799) rfl ?_)
 refine W1 (OpT.assign (ii 0) rfl ?_)
 refine W1 (OpT.assign (ii 0) rfl ?_)
 refine Wnt ?_
 refine WC.ret <| jmpQ_r <| retQ.three (sl g798 3 cap799) (ii 0) (ii 0) rfl rfl rfl ?_
 exact ⟨_, rfl, g798, cap799, ex800, rfl, (St.selD 3 [0] rfl rfl (by decide) st804)⟩

end Go.Ped
