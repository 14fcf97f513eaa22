/- The law's fixed program is answered as the document says. -/
import Derived.Test.YtojkakpkmfopbaaF20
import Derived.Test.YtojkakpkmfopbaaF26
import Derived.Test.YtojkakpkmfopbaaF27
set_option linter.unusedVariables false
set_option maxRecDepth 20000
namespace Go.Ped
open Go Go.Eng Go.RowKit Go.Proofs

theorem ta21 : aggB Try.prog 21 = some false := by kernel_rfl
theorem cal19 : CallOk Try.prog 19 := ⟨⟨Try.f19, Try.func19, rfl, by decide⟩⟩
theorem cal18 : CallOk Try.prog 18 := ⟨⟨Try.f18, Try.func18, rfl, by decide⟩⟩
theorem cal20 : CallOk Try.prog 20 := ⟨⟨Try.f20, Try.func20, rfl, by decide⟩⟩
theorem ta77 : aggB Try.prog 77 = some true := by kernel_rfl
theorem tg77 : Try.prog.eqGuardType Try.prog.depth 77 = false := by kernel_rfl
theorem cal21 : CallOk Try.prog 21 := ⟨⟨Try.f21, Try.func21, rfl, by decide⟩⟩
theorem cal39 : CallOk Try.prog 39 := ⟨⟨Try.f39, Try.func39, rfl, by decide⟩⟩
theorem cal22 : CallOk Try.prog 22 := ⟨⟨Try.f22, Try.func22, rfl, by decide⟩⟩
theorem tu111 : Try.prog.underlying 111 = some (.map 9 109) := by kernel_rfl
theorem ts109 : sizeB Try.prog 109 = some 0 := by kernel_rfl
structure Lev where
  pred : ByteArray
  n : Int
  deriving DecidableEq
theorem eqLev (d : Nat) (w : World) (a b : Lev) : (Op.equalIn (d + 2) 77 (.agg #[.string a.pred, .int .i32 a.n]) (.agg #[.string b.pred, .int .i32 b.n])).run Try.prog w = .ok (decide (a = b)) w := by
  have h : decide (a = b) = ((a.pred.toList == b.pred.toList) && ((a.n == b.n) && true)) := by
    rw [toList_eq_iff, Bool.eq_iff_iff]
    simp only [decide_eq_true_eq, Bool.and_eq_true, beq_iff_eq, and_true]
    cases a; cases b; simp
  rw [h]
  refine eqs_of Try.underlying77 (by kernel_rfl) ?_
  refine eqs_cons (by decide) (run_partS ta9 rfl) (run_partS ta9 rfl) (run_equalIn_string w _ 9 _ _ (by kernel_rfl)) ?_
  exact eqs_cons (by decide) (run_partS ta21 rfl) (run_partS ta21 rfl) (run_equalIn_int w _ 21 .i32 .i32 _ _ (by kernel_rfl)) eqs_nil
theorem bnd_y : Bnd [rY] := by
  refine ⟨?_, by decide⟩
  intro r hr
  simp only [List.mem_cons, List.not_mem_nil, or_false] at hr
  subst hr
  simp [rulT, ltrT, atmT, expT, expsT, lOf, zExp, rY]
theorem edges_y : edgesF [rY] = [⟨⟨#[121]⟩, ⟨#[120]⟩, 1, 0⟩] := by
  simp [edgesF, edgesR, List.zipIdx, rY, lOf, isAtm, edgOf, kindOf, aggsB, makesB, wkB]
theorem makes_y : ([rY] : List Rul).any makesB = false := by
  simp [makesB, wkB, rY, lOf]
theorem ret_lit {P : Program} {k : Nat} {ar : Array Value} {w : World} {b c : Bool} {Q : World → Prop} (e : b = c) (h : Calls P k ar w (Ret fun r w' => r = .bool b ∧ Q w')) : Calls P k ar w (Ret fun r w' => r = .bool c ∧ Q w') := e ▸ h
set_option maxHeartbeats 8000000 in
theorem lives_spec {Z : Nat → Prop} {w0 w : World} {L : List Res} (st : St Z w0 w L) : Calls Try.prog 9 #[] w (Ret fun r w' => r = .bool true ∧ St Z w0 w' L) := by
 refine calls_of_WC (m := 70) (rs := [.tmp 0]) Try.func9 rfl rfl rfl rfl ?_
 refine Wsr ?_
 refine W1 (OpT.assign (.bool false) rfl ?_)
 refine Wns ?_
 refine W1 (OpT.callS cal19 [] [] [] rfl ca0 (other_spec st) ?_)
 rintro v6 w7 ⟨b1, Z2, w3, hx4, rfl, hs5, st8⟩
 refine W1 (OpT.callS cal18 [] [] [(.agg #[(sl b1 2 2)])] rfl (ca1 rfl) (Levels_other st8 hs5) ?_)
 rintro v12 w13 ⟨lg9, lc10, lx11, rfl, st14⟩
 refine W1 (OpT.move (.tuple #[(sl lg9 3 lc10), (ii 0), (ii 0)]) rfl ?_)
 refine W1 (OpT.extract [(sl lg9 3 lc10), (ii 0), (ii 0)] (sl lg9 3 lc10) rfl rfl ?_)
 refine W1 (OpT.extract [(sl lg9 3 lc10), (ii 0), (ii 0)] (ii 0) rfl rfl ?_)
 refine W1 (OpT.extract [(sl lg9 3 lc10), (ii 0), (ii 0)] (ii 0) rfl rfl ?_)
 refine W1 (OpT.assign (sl lg9 3 lc10) rfl ?_)
 refine W1 (OpT.assign (ii 0) rfl ?_)
 refine W1 (OpT.assign (ii 0) rfl ?_)
 refine Wns ?_
 refine W1 (OpT.callS cal19 [] [] [] rfl ca0 (other_spec st14) ?_)
 rintro v20 w21 ⟨b15, Z16, w17, hx18, rfl, hs19, st22⟩
 refine W1 (OpT.callS cal20 [] [] [(.agg #[(sl b15 2 2)])] rfl (ca1 rfl) (Parts_other st22 hs19) ?_)
 rintro v35 w36 ⟨og23, oc24, ox25, p26, c27, e28, p29, c30, e31, p32, c33, e34, rfl, st37⟩
 refine W1 (OpT.assign (sl og23 3 oc24) rfl ?_)
 refine Wns ?_
 refine W1 (OpT.move (ii 0) rfl ?_)
 refine W1 (OpT.lit (b := (decide ((0 : Int) = (0 : Int)))) (c := true) (by decide) (fun hk => OpT.ieq .i64 (0) (0) rfl rfl hk) ?_)
 refine W1 (OpT.move (.bool true) rfl ?_)
 refine W2 (dj := 15) rfl (OpT.move (ii 0) rfl ?_)
 refine W2 (dj := 15) rfl (OpT.lit (b := (decide ((0 : Int) = (0 : Int)))) (c := true) (by decide) (fun hk => OpT.ieq .i64 (0) (0) rfl rfl hk) ?_)
 refine W1 (OpT.pickT (.bool true) rfl rfl ?_)
 refine W1 (OpT.move (.bool true) rfl ?_)
 refine W2 (dj := 19) rfl (OpT.move (sl lg9 3 lc10) rfl ?_)
 refine W2 (dj := 19) rfl (OpT.litV (v := (ni 3)) (v' := (ii 3)) rfl (fun hk => OpT.lenS _ 3 lc10 rfl tu70 rfl hk) ?_)
 refine W2 (dj := 19) rfl (OpT.lit (b := (decide ((3 : Int) = (3 : Int)))) (c := true) (by decide) (fun hk => OpT.ieq .i64 (3) (3) rfl rfl hk) ?_)
 refine W1 (OpT.pickT (.bool true) rfl rfl ?_)
 refine W1 (OpT.move (.bool true) rfl ?_)
 refine W2 (dj := 24) rfl (OpT.move (sl lg9 3 lc10) rfl ?_)
 refine W2 (dj := 24) rfl (OpT.idx 2 ⟨lg9, 0, none⟩ ⟨lg9, 0, none⟩ 3 lc10 .i64 0 tu70 ts77 rfl rfl (by decide) (by decide) rfl ?_)
 refine W2 (dj := 24) rfl (OpT.loadA ⟨lg9, 0, none⟩ 2 [(vs 120), (.int .i32 (0))] ta77 ts77 rfl ((st37.rowB (i := 4) rfl).part 0 2) rfl ?_)
 refine W2 (dj := 24) rfl (OpT.build [(0, (vs 120))] [(vs 120), (.int .i32 (0))] tz77 tp77 (mp1 rfl) rfl ?_)
 refine W2 (dj := 24) rfl (OpT.lit (b := (decide ((⟨(⟨#[120]⟩ : ByteArray), 0⟩ : Lev) = (⟨(⟨#[120]⟩ : ByteArray), 0⟩ : Lev)))) (c := true) (by decide) (fun hk => OpT.aggEq [(vs 120), (.int .i32 (0))] [(vs 120), (.int .i32 (0))] (decide ((⟨(⟨#[120]⟩ : ByteArray), 0⟩ : Lev) = (⟨(⟨#[120]⟩ : ByteArray), 0⟩ : Lev))) tg77 (fun w => eqLev 9998 w (⟨(⟨#[120]⟩ : ByteArray), 0⟩ : Lev) (⟨(⟨#[120]⟩ : ByteArray), 0⟩ : Lev)) rfl rfl hk) ?_)
 refine W1 (OpT.pickT (.bool true) rfl rfl ?_)
 refine W1 (OpT.move (.bool true) rfl ?_)
 refine W2 (dj := 31) rfl (OpT.move (sl lg9 3 lc10) rfl ?_)
 refine W2 (dj := 31) rfl (OpT.idx 2 ⟨lg9, 0, none⟩ ⟨lg9, 4, none⟩ 3 lc10 .i64 2 tu70 ts77 rfl rfl (by decide) (by decide) rfl ?_)
 refine W2 (dj := 31) rfl (OpT.loadA ⟨lg9, 4, none⟩ 2 [(vs 122), (.int .i32 (1))] ta77 ts77 rfl ((st37.rowB (i := 4) rfl).part 4 2) rfl ?_)
 refine W2 (dj := 31) rfl (OpT.build [(0, (vs 122)), (1, (.int .i32 (1)))] [(vs 122), (.int .i32 (1))] tz77 tp77 (mp2 rfl rfl) rfl ?_)
 refine W2 (dj := 31) rfl (OpT.lit (b := (decide ((⟨(⟨#[122]⟩ : ByteArray), 1⟩ : Lev) = (⟨(⟨#[122]⟩ : ByteArray), 1⟩ : Lev)))) (c := true) (by decide) (fun hk => OpT.aggEq [(vs 122), (.int .i32 (1))] [(vs 122), (.int .i32 (1))] (decide ((⟨(⟨#[122]⟩ : ByteArray), 1⟩ : Lev) = (⟨(⟨#[122]⟩ : ByteArray), 1⟩ : Lev))) tg77 (fun w => eqLev 9998 w (⟨(⟨#[122]⟩ : ByteArray), 1⟩ : Lev) (⟨(⟨#[122]⟩ : ByteArray), 1⟩ : Lev)) rfl rfl hk) ?_)
 refine W1 (OpT.pickT (.bool true) rfl rfl ?_)
 refine W1 (OpT.move (.bool true) rfl ?_)
 refine W2 (dj := 38) rfl (OpT.move (sl og23 3 oc24) rfl ?_)
 refine W2 (dj := 38) rfl (OpT.litV (v := (ni 3)) (v' := (ii 3)) rfl (fun hk => OpT.lenS _ 3 oc24 rfl tu74 rfl hk) ?_)
 refine W2 (dj := 38) rfl (OpT.lit (b := (decide ((3 : Int) = (3 : Int)))) (c := true) (by decide) (fun hk => OpT.ieq .i64 (3) (3) rfl rfl hk) ?_)
 refine W1 (OpT.pickT (.bool true) rfl rfl ?_)
 refine W1 (OpT.move (.bool true) rfl ?_)
 refine W2 (dj := 43) rfl (OpT.move (sl og23 3 oc24) rfl ?_)
 refine W2 (dj := 43) rfl (OpT.idx 1 ⟨og23, 0, none⟩ ⟨og23, 0, none⟩ 3 oc24 .i64 0 tu74 ts68 rfl rfl (by decide) (by decide) rfl ?_)
 refine W2 (dj := 43) rfl (OpT.loadS ⟨og23, 0, none⟩ (sl p26 1 c27) ta68 rfl (st37.cellB (i := 0) rfl rfl) ?_)
 refine W2 (dj := 43) rfl (OpT.litV (v := (ni 1)) (v' := (ii 1)) rfl (fun hk => OpT.lenS _ 1 c27 rfl tu68 rfl hk) ?_)
 refine W2 (dj := 43) rfl (OpT.lit (b := (decide ((1 : Int) = (1 : Int)))) (c := true) (by decide) (fun hk => OpT.ieq .i64 (1) (1) rfl rfl hk) ?_)
 refine W1 (OpT.pickT (.bool true) rfl rfl ?_)
 refine W1 (OpT.move (.bool true) rfl ?_)
 refine W2 (dj := 50) rfl (OpT.move (sl og23 3 oc24) rfl ?_)
 refine W2 (dj := 50) rfl (OpT.idx 1 ⟨og23, 0, none⟩ ⟨og23, 0, none⟩ 3 oc24 .i64 0 tu74 ts68 rfl rfl (by decide) (by decide) rfl ?_)
 refine W2 (dj := 50) rfl (OpT.loadS ⟨og23, 0, none⟩ (sl p26 1 c27) ta68 rfl (st37.cellB (i := 0) rfl rfl) ?_)
 refine W2 (dj := 50) rfl (OpT.idx 1 ⟨p26, 0, none⟩ ⟨p26, 0, none⟩ 1 c27 .i64 0 tu68 ts9 rfl rfl (by decide) (by decide) rfl ?_)
 refine W2 (dj := 50) rfl (OpT.loadS ⟨p26, 0, none⟩ (vs 120) ta9 rfl (st37.cellB (i := 1) rfl rfl) ?_)
 refine W2 (dj := 50) rfl (OpT.lit (b := (decide ((⟨#[120]⟩ : ByteArray) = (⟨#[120]⟩ : ByteArray)))) (c := true) (by decide) (fun hk => OpT.seq ((⟨#[120]⟩ : ByteArray)) ((⟨#[120]⟩ : ByteArray)) rfl rfl hk) ?_)
 refine W1 (OpT.pickT (.bool true) rfl rfl ?_)
 refine W1 (OpT.move (.bool true) rfl ?_)
 refine W2 (dj := 58) rfl (OpT.callS cal19 [] [] [] rfl ca0 (other_spec st37) ?_)
 rintro v43 w44 ⟨b38, Z39, w40, hx41, rfl, hs42, st45⟩
 refine W2 (dj := 58) rfl (OpT.fieldV [(sl b38 2 2)] (sl b38 2 2) ⟨_, _, Try.underlying27, rfl, ta22, rfl⟩ rfl rfl ?_)
 have hd46 := Rl.sl_drop hs42 1 (by decide) (by decide)
 replace hd46 : rRul.sl Z39 w40 (sliced (some ⟨b38, 0, none⟩) 1 2 2 3) [rY] := hd46
 refine W2 (dj := 58) rfl (OpT.sliceLo 1 tu22 ts31 rfl rfl (by decide) ?_)
 refine W2 (dj := 58) rfl (OpT.callC cal21 [] [] [(sliced (some ⟨b38, 0, none⟩) 1 2 2 3)] rfl (ca1 rfl) ?_)
 refine calls_of_WC (m := 10) (rs := [.tmp 2]) Try.func21 rfl rfl rfl rfl ?_
 refine Wsr ?_
 refine W1 (OpT.assign (.bool false) rfl ?_)
 refine Wns ?_
 refine W1 (OpT.move (sliced (some ⟨b38, 0, none⟩) 1 2 2 3) rfl ?_)
 refine W1 (OpT.callS cal39 [] [] [(sliced (some ⟨b38, 0, none⟩) 1 2 2 3), (.func (.func 6) #[] #[])] rfl (ca2 rfl rfl) (ret_lit (show ([rY] : List Rul).any makesB = false from makes_y) (ContainsFunc_Rul st45 hd46 6 cal6 [] makesB (fun w' cs x hx st' hR => by obtain ⟨a, b, rfl, h1, h2⟩ := hR; exact Makes_spec st' x (bnd_y.t x hx) _ _ h1 h2))) ?_)
 rintro v47 w48 ⟨rfl, st49⟩
 refine W1 (OpT.not false rfl ?_)
 refine W1 (OpT.move (.bool true) rfl ?_)
 refine W2 (dj := 6) rfl (OpT.move (sliced (some ⟨b38, 0, none⟩) 1 2 2 3) rfl ?_)
 refine W2 (dj := 6) rfl (OpT.callC cal22 [] [] [(sliced (some ⟨b38, 0, none⟩) 1 2 2 3)] rfl (ca1 rfl) ?_)
 refine calls_of_WC (m := 46) (rs := [.tmp 2]) Try.func22 rfl rfl rfl rfl ?_
 refine Wsr ?_
 refine W1 (OpT.assign (.bool false) rfl ?_)
 refine Wns ?_
 refine W1 (OpT.makeMap Value.string (fun _ : Unit => Value.agg #[]) st49 (fun b50 w51 st52 => ?_))
 refine W1 (OpT.assign (.map (some b50)) rfl ?_)
 refine Wnt ?_
 refine WC.seq ?_
 refine Wsr ?_
 refine W1 (OpT.move (sliced (some ⟨b38, 0, none⟩) 1 2 2 3) rfl ?_)
 refine W1 (OpT.litV (v := (ni 1)) (v' := (ii 1)) rfl (fun hk => OpT.lenR rfl tu22 hd46 rfl hk) ?_)
 refine W1 (OpT.move (ii 0) rfl ?_)
 refine Wnt ?_
 refine WC.block ?_
 refine WC.unroll 12 ?_
 refine UL.cut (fun r => r 0 = (sliced (some ⟨b38, 0, none⟩) 1 2 2 3) ∧ r 3 = (.map (some b50)) ∧ r 11 = (sliced (some ⟨b38, 0, none⟩) 1 2 2 3) ∧ r 12 = (ii 1) ∧ r 13 = (ii 0)) ⟨rfl, rfl, rfl, rfl, rfl⟩ ?_
 have st59 : St Z39 w40 w51 (Mp Value.string (fun _ : Unit => Value.agg #[]) b50 ([] : List (ByteArray × Unit)) :: L) := (St.selD 6 [0] rfl rfl (by decide) st52)
 intro ρ53 hI60
 refine UL.go ?_
 refine Wsr ?_
 refine W1 (OpT.lit (b := (decide ((0 : Int) < (1 : Int)))) (c := true) (by decide) (fun hk => OpT.ilt .i64 (0) (1) hI60.2.2.2.2 hI60.2.2.2.1 hk) ?_)
 refine Wnt ?_
 refine WC.seq ?_
 refine WC.condT rfl ?_
 refine WC.skip ?_
 refine thenQ_n ?_
 refine WC.seq ?_
 refine WC.block ?_
 refine Wsr ?_
 refine W1 (OpT.idxX tu22 ts31 hd46 hI60.2.2.1 .i64 (0) hI60.2.2.2.2 rfl (fun ad62 cs63 hr64 hR65 => ?_))
 have hR65c := hR65
 obtain ⟨hv66, bv67, rfl, hh68, hb69⟩ := hR65
 refine W1 (OpT.loadA ad62 3 [(vs 121), hv66, bv67] ta31 ts31 rfl ((hr64.at st59).part 0 3) rfl ?_)
 refine W1 (OpT.alloc st59 (.agg #[ve, vn, vn]) [ve, vn, vn] tz31 rfl (fun b70 w71 st72 => ?_))
 refine WL.stepN (OpT.storeA st72 0 3 [(vs 121), hv66, bv67] rfl ts31 rfl rfl (aC rfl (aC (Rl.sl_one hh68) (aC (Rl.sl_one hb69) aN))) rfl rfl (fun w73 st74 => ?_))
 refine Wnt ?_
 refine WC.seq ?_
 refine Wsr ?_
 refine W1 (OpT.loadA ⟨b70, 0, none⟩ 3 [(vs 121), hv66, bv67] ta31 ts31 rfl ((st74.rowB (i := 0) rfl).part 0 3) rfl ?_)
 refine W1 (OpT.callS cal11 [] [] [(.agg #[(vs 121), hv66, bv67])] rfl (ca1 rfl) (ret_lit (show aggsB rY = false from rfl) (aggregates_spec st74 rY _ _ hh68 hb69)) ?_)
 rintro v75 w76 ⟨rfl, st77⟩
 refine Wnt ?_
 refine WC.condF rfl ?_
 refine WC.skip ?_
 refine thenQ_n ?_
 refine WC.region ?_
 refine W1 (OpT.move (.map (some b50)) hI60.2.1 ?_)
 refine W1 (OpT.field 0 ⟨b70, 0, none⟩ ⟨b70, 0, none⟩ tf31_0 rfl rfl ?_)
 refine W1 (OpT.loadS ⟨b70, 0, none⟩ (vs 121) ta9 rfl (st77.cellB (i := 0) rfl rfl) ?_)
 refine W1 (OpT.build [] [] tz109 tp109 mp0 rfl ?_)
 have e80 : mset ([] : List (ByteArray × Unit)) (⟨#[121]⟩ : ByteArray) () = ([((⟨#[121]⟩ : ByteArray), ())] : List (ByteArray × Unit)) := by simp [mset_cons, mset_nil]
 refine WL.stepN (OpT.mapSet st77 1 rfl ko9 tu111 ((⟨#[121]⟩ : ByteArray)) (()) rfl rfl rfl (fun w78 st79 => ?_))
 rw [e80] at st79
 refine WL.nil ?_
 refine blkQ_n ?_
 refine thenQ_n ?_
 refine WC.region ?_
 refine W1 (OpT.iadd .i64 (0) (1) (1) hI60.2.2.2.2 rfl (by decide) ?_)
 refine W1 (OpT.move (ii 1) rfl ?_)
 refine WL.nil ?_
 refine unrQ_n ?_
 refine UL.cut (fun r => r 0 = (sliced (some ⟨b38, 0, none⟩) 1 2 2 3) ∧ r 3 = (.map (some b50)) ∧ r 11 = (sliced (some ⟨b38, 0, none⟩) 1 2 2 3) ∧ r 12 = (ii 1) ∧ r 13 = (ii 1)) ⟨hI60.1, hI60.2.1, hI60.2.2.1, hI60.2.2.2.1, rfl⟩ ?_
 have st87 : St Z39 w40 w78 (Mp Value.string (fun _ : Unit => Value.agg #[]) b50 ([((⟨#[121]⟩ : ByteArray), ())] : List (ByteArray × Unit)) :: L) := (St.selD 2 [1] rfl rfl (by decide) st79)
 intro ρ81 hI88
 refine UL.go ?_
 refine Wsr ?_
 refine W1 (OpT.lit (b := (decide ((1 : Int) < (1 : Int)))) (c := false) (by decide) (fun hk => OpT.ilt .i64 (1) (1) hI88.2.2.2.2 hI88.2.2.2.1 hk) ?_)
 refine Wnt ?_
 refine WC.seq ?_
 refine WC.condF rfl ?_
 refine WC.exit ?_
 refine thenQ_x ?_
 refine unrQ_x ?_
 refine blkQ_hit ?_
 refine thenQ_n ?_
 refine WC.seq ?_
 refine Wsr ?_
 refine W1 (OpT.move (sliced (some ⟨b38, 0, none⟩) 1 2 2 3) hI88.1 ?_)
 refine W1 (OpT.build [(0, (sliced (some ⟨b38, 0, none⟩) 1 2 2 3))] [(sliced (some ⟨b38, 0, none⟩) 1 2 2 3)] tz27 tp27 (mp1 rfl) (by first | (simp [Instr.fill, Value.cells, (Rl.sl_cells hd46)]; done) | simp [Instr.fill, (Rl.sl_cells hd46), Value.cells.eq_2, show ∀ cs, (Value.agg cs).cells = cs from fun _ => rfl]) ?_)
 refine W1 (OpT.callS cal5 [] [] [(.agg #[(sliced (some ⟨b38, 0, none⟩) 1 2 2 3)])] rfl (ca1 rfl) (Edges_spec st87 _ [rY] hd46 bnd_y) ?_)
 rintro v91 w92 ⟨o89, c90, st93⟩
 rw [edges_y] at st93
 replace st93 : St Z39 w40 w92 (Row 47 4 v91 1 [(vs 121), (vs 120), (.int .i8 (1)), (ii 0)] :: Mp Value.string (fun _ : Unit => Value.agg #[]) b50 ([((⟨#[121]⟩ : ByteArray), ())] : List (ByteArray × Unit)) :: L) := st93
 obtain ⟨g94, cap95, ex96, rfl, hE97, hc98, hm99, st100⟩ := St.openRow (n := 1) (cs := [(vs 121), (vs 120), (.int .i8 (1)), (ii 0)]) (by decide) st93
 replace st100 : St Z39 w40 w92 (Blk g94 47 (cx [(vs 121), (vs 120), (.int .i8 (1)), (ii 0)] ex96) :: Mp Value.string (fun _ : Unit => Value.agg #[]) b50 ([((⟨#[121]⟩ : ByteArray), ())] : List (ByteArray × Unit)) :: L) := st100
 refine W1 (OpT.litV (v := (ni 1)) (v' := (ii 1)) rfl (fun hk => OpT.lenS _ 1 cap95 rfl tu24 rfl hk) ?_)
 refine W1 (OpT.move (ii 0) rfl ?_)
 refine Wnt ?_
 refine WC.block ?_
 refine WC.unroll 12 ?_
 refine UL.cut (fun r => r 3 = (.map (some b50)) ∧ r 26 = (sl g94 1 cap95) ∧ r 27 = (ii 1) ∧ r 28 = (ii 0)) ⟨hI88.2.1, rfl, rfl, rfl⟩ ?_
 intro ρ101 hI106
 refine UL.go ?_
 refine Wsr ?_
 refine W1 (OpT.lit (b := (decide ((0 : Int) < (1 : Int)))) (c := true) (by decide) (fun hk => OpT.ilt .i64 (0) (1) hI106.2.2.2 hI106.2.2.1 hk) ?_)
 refine Wnt ?_
 refine WC.seq ?_
 refine WC.condT rfl ?_
 refine WC.skip ?_
 refine thenQ_n ?_
 refine WC.seq ?_
 refine WC.block ?_
 refine Wsr ?_
 refine W1 (OpT.idx 4 ⟨g94, 0, none⟩ ⟨g94, 0, none⟩ 1 cap95 .i64 0 tu24 ts47 hI106.2.1 hI106.2.2.2 (by decide) (by decide) rfl ?_)
 refine W1 (OpT.loadA ⟨g94, 0, none⟩ 4 [(vs 121), (vs 120), (.int .i8 (1)), (ii 0)] ta47 ts47 rfl ((st100.rowB (i := 0) rfl).part 0 4) rfl ?_)
 refine W1 (OpT.alloc st100 (.agg #[ve, ve, (.int .i8 (0)), (ii 0)]) [ve, ve, (.int .i8 (0)), (ii 0)] tz47 rfl (fun b107 w108 st109 => ?_))
 refine WL.stepN (OpT.storeA st109 0 4 [(vs 121), (vs 120), (.int .i8 (1)), (ii 0)] rfl ts47 rfl rfl rfl rfl rfl (fun w110 st111 => ?_))
 refine Wns ?_
 refine W1 (OpT.move (.map (some b50)) hI106.1 ?_)
 refine W1 (OpT.field 1 ⟨b107, 0, none⟩ ⟨b107, 1, none⟩ tf47_1 rfl rfl ?_)
 refine W1 (OpT.loadS ⟨b107, 1, none⟩ (vs 120) ta9 rfl (st111.cellB (i := 0) rfl rfl) ?_)
 refine W1 (OpT.litV (v := (.tuple #[(.agg #[]), (.bool ((mget ([((⟨#[121]⟩ : ByteArray), ())] : List (ByteArray × Unit)) (⟨#[120]⟩ : ByteArray)).isSome))])) (v' := (.tuple #[(.agg #[]), (.bool false)])) (by simp [mget_cons, mget_nil]) (fun hk => OpT.lookupOkU st111 2 rfl ko9 tu111 tz109 ((⟨#[120]⟩ : ByteArray)) rfl rfl hk) ?_)
 refine W1 (OpT.move (.tuple #[(.agg #[]), (.bool false)]) rfl ?_)
 refine W1 (OpT.extract [(.agg #[]), (.bool false)] (.agg #[]) rfl rfl ?_)
 refine W1 (OpT.extract [(.agg #[]), (.bool false)] (.bool false) rfl rfl ?_)
 refine W1 (OpT.alloc st111 (.agg #[]) [] tz109 rfl (fun b112 w113 st114 => ?_))
 refine WL.stepN (OpT.storeA st114 0 0 [] rfl ts109 rfl rfl rfl rfl rfl (fun w115 st116 => ?_))
 refine W1 (OpT.assign (.bool false) rfl ?_)
 refine Wns ?_
 refine W1 (OpT.move (.bool false) rfl ?_)
 refine W1 (OpT.move (.bool false) rfl ?_)
 refine WL.pass (dj := 40) (c := false) rfl rfl rfl rfl rfl ?_
 refine WL.pass (dj := 40) (c := false) rfl rfl rfl rfl rfl ?_
 refine WL.pass (dj := 40) (c := false) rfl rfl rfl rfl rfl ?_
 refine W1 (OpT.pickF (.bool false) rfl rfl ?_)
 refine Wnt ?_
 refine WC.condF rfl ?_
 refine WC.skip ?_
 refine blkQ_n ?_
 refine thenQ_n ?_
 refine WC.region ?_
 refine W1 (OpT.iadd .i64 (0) (1) (1) hI106.2.2.2 rfl (by decide) ?_)
 refine W1 (OpT.move (ii 1) rfl ?_)
 refine WL.nil ?_
 refine unrQ_n ?_
 refine UL.cut (fun r => r 3 = (.map (some b50)) ∧ r 26 = (sl g94 1 cap95) ∧ r 27 = (ii 1) ∧ r 28 = (ii 1)) ⟨hI106.1, hI106.2.1, hI106.2.2.1, rfl⟩ ?_
 have st122 : St Z39 w40 w115 (Blk g94 47 (cx [(vs 121), (vs 120), (.int .i8 (1)), (ii 0)] ex96) :: Mp Value.string (fun _ : Unit => Value.agg #[]) b50 ([((⟨#[121]⟩ : ByteArray), ())] : List (ByteArray × Unit)) :: L) := (St.selD 4 [2, 3] rfl rfl (by decide) st116)
 intro ρ117 hI123
 refine UL.go ?_
 refine Wsr ?_
 refine W1 (OpT.lit (b := (decide ((1 : Int) < (1 : Int)))) (c := false) (by decide) (fun hk => OpT.ilt .i64 (1) (1) hI123.2.2.2 hI123.2.2.1 hk) ?_)
 refine Wnt ?_
 refine WC.seq ?_
 refine WC.condF rfl ?_
 refine WC.exit ?_
 refine thenQ_x ?_
 refine unrQ_x ?_
 refine blkQ_hit ?_
 refine thenQ_n ?_
 refine Wsr ?_
 refine W1 (OpT.assign (.bool true) rfl ?_)
 refine Wnt ?_
 refine WC.ret <| retQ.one (.bool true) rfl ?_
 refine ⟨_, rfl, ?_⟩
 refine W1 (OpT.pickT (.bool true) rfl rfl ?_)
 refine W1 (OpT.assign (.bool true) rfl ?_)
 refine Wnt ?_
 refine WC.ret <| retQ.one (.bool true) rfl ?_
 refine ⟨_, rfl, ?_⟩
 refine W1 (OpT.pickT (.bool true) rfl rfl ?_)
 refine W1 (OpT.move (.bool true) rfl ?_)
 refine W2 (dj := 64) rfl (OpT.callS cal19 [] [] [] rfl ca0 (other_spec st122) ?_)
 rintro v129 w130 ⟨b124, Z125, w126, hx127, rfl, hs128, st131⟩
 refine W2 (dj := 64) rfl (OpT.fieldV [(sl b124 2 2)] (sl b124 2 2) ⟨_, _, Try.underlying27, rfl, ta22, rfl⟩ rfl rfl ?_)
 refine W2 (dj := 64) rfl (OpT.callC cal22 [] [] [(sl b124 2 2)] rfl (ca1 rfl) ?_)
 refine calls_of_WC (m := 46) (rs := [.tmp 2]) Try.func22 rfl rfl rfl rfl ?_
 refine Wsr ?_
 refine W1 (OpT.assign (.bool false) rfl ?_)
 refine Wns ?_
 refine W1 (OpT.makeMap Value.string (fun _ : Unit => Value.agg #[]) st131 (fun b132 w133 st134 => ?_))
 refine W1 (OpT.assign (.map (some b132)) rfl ?_)
 refine Wnt ?_
 refine WC.seq ?_
 refine Wsr ?_
 refine W1 (OpT.move (sl b124 2 2) rfl ?_)
 refine W1 (OpT.litV (v := (ni 2)) (v' := (ii 2)) rfl (fun hk => OpT.lenS _ 2 2 rfl tu22 rfl hk) ?_)
 refine W1 (OpT.move (ii 0) rfl ?_)
 refine Wnt ?_
 refine WC.block ?_
 refine WC.unroll 12 ?_
 refine UL.cut (fun r => r 0 = (sl b124 2 2) ∧ r 3 = (.map (some b132)) ∧ r 11 = (sl b124 2 2) ∧ r 12 = (ii 2) ∧ r 13 = (ii 0)) ⟨rfl, rfl, rfl, rfl, rfl⟩ ?_
 have st141 : St Z125 w126 w133 (Mp Value.string (fun _ : Unit => Value.agg #[]) b132 ([] : List (ByteArray × Unit)) :: L) := (St.selD 3 [0] rfl rfl (by decide) st134)
 intro ρ135 hI142
 refine UL.go ?_
 refine Wsr ?_
 refine W1 (OpT.lit (b := (decide ((0 : Int) < (2 : Int)))) (c := true) (by decide) (fun hk => OpT.ilt .i64 (0) (2) hI142.2.2.2.2 hI142.2.2.2.1 hk) ?_)
 refine Wnt ?_
 refine WC.seq ?_
 refine WC.condT rfl ?_
 refine WC.skip ?_
 refine thenQ_n ?_
 refine WC.seq ?_
 refine WC.block ?_
 refine Wsr ?_
 refine W1 (OpT.idxX tu22 ts31 hs128 hI142.2.2.1 .i64 (0) hI142.2.2.2.2 rfl (fun ad144 cs145 hr146 hR147 => ?_))
 have hR147c := hR147
 obtain ⟨hv148, bv149, rfl, hh150, hb151⟩ := hR147
 refine W1 (OpT.loadA ad144 3 [(vs 122), hv148, bv149] ta31 ts31 rfl ((hr146.at st141).part 0 3) rfl ?_)
 refine W1 (OpT.alloc st141 (.agg #[ve, vn, vn]) [ve, vn, vn] tz31 rfl (fun b152 w153 st154 => ?_))
 refine WL.stepN (OpT.storeA st154 0 3 [(vs 122), hv148, bv149] rfl ts31 rfl rfl (aC rfl (aC (Rl.sl_one hh150) (aC (Rl.sl_one hb151) aN))) rfl rfl (fun w155 st156 => ?_))
 refine Wnt ?_
 refine WC.seq ?_
 refine Wsr ?_
 refine W1 (OpT.loadA ⟨b152, 0, none⟩ 3 [(vs 122), hv148, bv149] ta31 ts31 rfl ((st156.rowB (i := 0) rfl).part 0 3) rfl ?_)
 refine W1 (OpT.callS cal11 [] [] [(.agg #[(vs 122), hv148, bv149])] rfl (ca1 rfl) (ret_lit (show aggsB rZ = false from rfl) (aggregates_spec st156 rZ _ _ hh150 hb151)) ?_)
 rintro v157 w158 ⟨rfl, st159⟩
 refine Wnt ?_
 refine WC.condF rfl ?_
 refine WC.skip ?_
 refine thenQ_n ?_
 refine WC.region ?_
 refine W1 (OpT.move (.map (some b132)) hI142.2.1 ?_)
 refine W1 (OpT.field 0 ⟨b152, 0, none⟩ ⟨b152, 0, none⟩ tf31_0 rfl rfl ?_)
 refine W1 (OpT.loadS ⟨b152, 0, none⟩ (vs 122) ta9 rfl (st159.cellB (i := 0) rfl rfl) ?_)
 refine W1 (OpT.build [] [] tz109 tp109 mp0 rfl ?_)
 have e162 : mset ([] : List (ByteArray × Unit)) (⟨#[122]⟩ : ByteArray) () = ([((⟨#[122]⟩ : ByteArray), ())] : List (ByteArray × Unit)) := by simp [mset_cons, mset_nil]
 refine WL.stepN (OpT.mapSet st159 1 rfl ko9 tu111 ((⟨#[122]⟩ : ByteArray)) (()) rfl rfl rfl (fun w160 st161 => ?_))
 rw [e162] at st161
 refine WL.nil ?_
 refine blkQ_n ?_
 refine thenQ_n ?_
 refine WC.region ?_
 refine W1 (OpT.iadd .i64 (0) (1) (1) hI142.2.2.2.2 rfl (by decide) ?_)
 refine W1 (OpT.move (ii 1) rfl ?_)
 refine WL.nil ?_
 refine unrQ_n ?_
 refine UL.cut (fun r => r 0 = (sl b124 2 2) ∧ r 3 = (.map (some b132)) ∧ r 11 = (sl b124 2 2) ∧ r 12 = (ii 2) ∧ r 13 = (ii 1)) ⟨hI142.1, hI142.2.1, hI142.2.2.1, hI142.2.2.2.1, rfl⟩ ?_
 have st169 : St Z125 w126 w160 (Mp Value.string (fun _ : Unit => Value.agg #[]) b132 ([((⟨#[122]⟩ : ByteArray), ())] : List (ByteArray × Unit)) :: L) := (St.selD 2 [1] rfl rfl (by decide) st161)
 intro ρ163 hI170
 refine UL.go ?_
 refine Wsr ?_
 refine W1 (OpT.lit (b := (decide ((1 : Int) < (2 : Int)))) (c := true) (by decide) (fun hk => OpT.ilt .i64 (1) (2) hI170.2.2.2.2 hI170.2.2.2.1 hk) ?_)
 refine Wnt ?_
 refine WC.seq ?_
 refine WC.condT rfl ?_
 refine WC.skip ?_
 refine thenQ_n ?_
 refine WC.seq ?_
 refine WC.block ?_
 refine Wsr ?_
 refine W1 (OpT.idxX tu22 ts31 hs128 hI170.2.2.1 .i64 (1) hI170.2.2.2.2 rfl (fun ad172 cs173 hr174 hR175 => ?_))
 have hR175c := hR175
 obtain ⟨hv176, bv177, rfl, hh178, hb179⟩ := hR175
 refine W1 (OpT.loadA ad172 3 [(vs 121), hv176, bv177] ta31 ts31 rfl ((hr174.at st169).part 0 3) rfl ?_)
 refine W1 (OpT.alloc st169 (.agg #[ve, vn, vn]) [ve, vn, vn] tz31 rfl (fun b180 w181 st182 => ?_))
 refine WL.stepN (OpT.storeA st182 0 3 [(vs 121), hv176, bv177] rfl ts31 rfl rfl (aC rfl (aC (Rl.sl_one hh178) (aC (Rl.sl_one hb179) aN))) rfl rfl (fun w183 st184 => ?_))
 refine Wnt ?_
 refine WC.seq ?_
 refine Wsr ?_
 refine W1 (OpT.loadA ⟨b180, 0, none⟩ 3 [(vs 121), hv176, bv177] ta31 ts31 rfl ((st184.rowB (i := 0) rfl).part 0 3) rfl ?_)
 refine W1 (OpT.callS cal11 [] [] [(.agg #[(vs 121), hv176, bv177])] rfl (ca1 rfl) (ret_lit (show aggsB rY = false from rfl) (aggregates_spec st184 rY _ _ hh178 hb179)) ?_)
 rintro v185 w186 ⟨rfl, st187⟩
 refine Wnt ?_
 refine WC.condF rfl ?_
 refine WC.skip ?_
 refine thenQ_n ?_
 refine WC.region ?_
 refine W1 (OpT.move (.map (some b132)) hI170.2.1 ?_)
 refine W1 (OpT.field 0 ⟨b180, 0, none⟩ ⟨b180, 0, none⟩ tf31_0 rfl rfl ?_)
 refine W1 (OpT.loadS ⟨b180, 0, none⟩ (vs 121) ta9 rfl (st187.cellB (i := 0) rfl rfl) ?_)
 refine W1 (OpT.build [] [] tz109 tp109 mp0 rfl ?_)
 have e190 : mset ([((⟨#[122]⟩ : ByteArray), ())] : List (ByteArray × Unit)) (⟨#[121]⟩ : ByteArray) () = ([((⟨#[122]⟩ : ByteArray), ()), ((⟨#[121]⟩ : ByteArray), ())] : List (ByteArray × Unit)) := by simp [mset_cons, mset_nil]
 refine WL.stepN (OpT.mapSet st187 1 rfl ko9 tu111 ((⟨#[121]⟩ : ByteArray)) (()) rfl rfl rfl (fun w188 st189 => ?_))
 rw [e190] at st189
 refine WL.nil ?_
 refine blkQ_n ?_
 refine thenQ_n ?_
 refine WC.region ?_
 refine W1 (OpT.iadd .i64 (1) (1) (2) hI170.2.2.2.2 rfl (by decide) ?_)
 refine W1 (OpT.move (ii 2) rfl ?_)
 refine WL.nil ?_
 refine unrQ_n ?_
 refine UL.cut (fun r => r 0 = (sl b124 2 2) ∧ r 3 = (.map (some b132)) ∧ r 11 = (sl b124 2 2) ∧ r 12 = (ii 2) ∧ r 13 = (ii 2)) ⟨hI170.1, hI170.2.1, hI170.2.2.1, hI170.2.2.2.1, rfl⟩ ?_
 have st197 : St Z125 w126 w188 (Mp Value.string (fun _ : Unit => Value.agg #[]) b132 ([((⟨#[122]⟩ : ByteArray), ()), ((⟨#[121]⟩ : ByteArray), ())] : List (ByteArray × Unit)) :: L) := (St.selD 2 [1] rfl rfl (by decide) st189)
 intro ρ191 hI198
 refine UL.go ?_
 refine Wsr ?_
 refine W1 (OpT.lit (b := (decide ((2 : Int) < (2 : Int)))) (c := false) (by decide) (fun hk => OpT.ilt .i64 (2) (2) hI198.2.2.2.2 hI198.2.2.2.1 hk) ?_)
 refine Wnt ?_
 refine WC.seq ?_
 refine WC.condF rfl ?_
 refine WC.exit ?_
 refine thenQ_x ?_
 refine unrQ_x ?_
 refine blkQ_hit ?_
 refine thenQ_n ?_
 refine WC.seq ?_
 refine Wsr ?_
 refine W1 (OpT.move (sl b124 2 2) hI198.1 ?_)
 refine W1 (OpT.build [(0, (sl b124 2 2))] [(sl b124 2 2)] tz27 tp27 (mp1 rfl) rfl ?_)
 refine W1 (OpT.callS cal5 [] [] [(.agg #[(sl b124 2 2)])] rfl (ca1 rfl) (Edges_spec st197 _ otherR hs128 bnd_other) ?_)
 rintro v201 w202 ⟨o199, c200, st203⟩
 rw [edges_other] at st203
 replace st203 : St Z125 w126 w202 (Row 47 4 v201 3 [(vs 122), (vs 121), (.int .i8 (2)), (ii 0), (vs 122), (vs 122), (.int .i8 (1)), (ii 0), (vs 121), (vs 120), (.int .i8 (1)), (ii 1)] :: Mp Value.string (fun _ : Unit => Value.agg #[]) b132 ([((⟨#[122]⟩ : ByteArray), ()), ((⟨#[121]⟩ : ByteArray), ())] : List (ByteArray × Unit)) :: L) := st203
 obtain ⟨g204, cap205, ex206, rfl, hE207, hc208, hm209, st210⟩ := St.openRow (n := 3) (cs := [(vs 122), (vs 121), (.int .i8 (2)), (ii 0), (vs 122), (vs 122), (.int .i8 (1)), (ii 0), (vs 121), (vs 120), (.int .i8 (1)), (ii 1)]) (by decide) st203
 replace st210 : St Z125 w126 w202 (Blk g204 47 (cx [(vs 122), (vs 121), (.int .i8 (2)), (ii 0), (vs 122), (vs 122), (.int .i8 (1)), (ii 0), (vs 121), (vs 120), (.int .i8 (1)), (ii 1)] ex206) :: Mp Value.string (fun _ : Unit => Value.agg #[]) b132 ([((⟨#[122]⟩ : ByteArray), ()), ((⟨#[121]⟩ : ByteArray), ())] : List (ByteArray × Unit)) :: L) := st210
 refine W1 (OpT.litV (v := (ni 3)) (v' := (ii 3)) rfl (fun hk => OpT.lenS _ 3 cap205 rfl tu24 rfl hk) ?_)
 refine W1 (OpT.move (ii 0) rfl ?_)
 refine Wnt ?_
 refine WC.block ?_
 refine WC.unroll 12 ?_
 refine UL.cut (fun r => r 3 = (.map (some b132)) ∧ r 26 = (sl g204 3 cap205) ∧ r 27 = (ii 3) ∧ r 28 = (ii 0)) ⟨hI198.2.1, rfl, rfl, rfl⟩ ?_
 intro ρ211 hI216
 refine UL.go ?_
 refine Wsr ?_
 refine W1 (OpT.lit (b := (decide ((0 : Int) < (3 : Int)))) (c := true) (by decide) (fun hk => OpT.ilt .i64 (0) (3) hI216.2.2.2 hI216.2.2.1 hk) ?_)
 refine Wnt ?_
 refine WC.seq ?_
 refine WC.condT rfl ?_
 refine WC.skip ?_
 refine thenQ_n ?_
 refine WC.seq ?_
 refine WC.block ?_
 refine Wsr ?_
 refine W1 (OpT.idx 4 ⟨g204, 0, none⟩ ⟨g204, 0, none⟩ 3 cap205 .i64 0 tu24 ts47 hI216.2.1 hI216.2.2.2 (by decide) (by decide) rfl ?_)
 refine W1 (OpT.loadA ⟨g204, 0, none⟩ 4 [(vs 122), (vs 121), (.int .i8 (2)), (ii 0)] ta47 ts47 rfl ((st210.rowB (i := 0) rfl).part 0 4) rfl ?_)
 refine W1 (OpT.alloc st210 (.agg #[ve, ve, (.int .i8 (0)), (ii 0)]) [ve, ve, (.int .i8 (0)), (ii 0)] tz47 rfl (fun b217 w218 st219 => ?_))
 refine WL.stepN (OpT.storeA st219 0 4 [(vs 122), (vs 121), (.int .i8 (2)), (ii 0)] rfl ts47 rfl rfl rfl rfl rfl (fun w220 st221 => ?_))
 refine Wns ?_
 refine W1 (OpT.move (.map (some b132)) hI216.1 ?_)
 refine W1 (OpT.field 1 ⟨b217, 0, none⟩ ⟨b217, 1, none⟩ tf47_1 rfl rfl ?_)
 refine W1 (OpT.loadS ⟨b217, 1, none⟩ (vs 121) ta9 rfl (st221.cellB (i := 0) rfl rfl) ?_)
 refine W1 (OpT.litV (v := (.tuple #[(.agg #[]), (.bool ((mget ([((⟨#[122]⟩ : ByteArray), ()), ((⟨#[121]⟩ : ByteArray), ())] : List (ByteArray × Unit)) (⟨#[121]⟩ : ByteArray)).isSome))])) (v' := (.tuple #[(.agg #[]), (.bool true)])) (by simp [mget_cons, mget_nil]) (fun hk => OpT.lookupOkU st221 2 rfl ko9 tu111 tz109 ((⟨#[121]⟩ : ByteArray)) rfl rfl hk) ?_)
 refine W1 (OpT.move (.tuple #[(.agg #[]), (.bool true)]) rfl ?_)
 refine W1 (OpT.extract [(.agg #[]), (.bool true)] (.agg #[]) rfl rfl ?_)
 refine W1 (OpT.extract [(.agg #[]), (.bool true)] (.bool true) rfl rfl ?_)
 refine W1 (OpT.alloc st221 (.agg #[]) [] tz109 rfl (fun b222 w223 st224 => ?_))
 refine WL.stepN (OpT.storeA st224 0 0 [] rfl ts109 rfl rfl rfl rfl rfl (fun w225 st226 => ?_))
 refine W1 (OpT.assign (.bool true) rfl ?_)
 refine Wns ?_
 refine W1 (OpT.move (.bool true) rfl ?_)
 refine W1 (OpT.move (.bool true) rfl ?_)
 refine W2 (dj := 40) rfl (OpT.field 2 ⟨b217, 0, none⟩ ⟨b217, 2, none⟩ tf47_2 rfl rfl ?_)
 refine W2 (dj := 40) rfl (OpT.loadS ⟨b217, 2, none⟩ (.int .i8 (2)) ta45 rfl (st226.cellB (i := 1) rfl rfl) ?_)
 refine W2 (dj := 40) rfl (OpT.lit (b := (decide ((2 : Int) ≠ (1 : Int)))) (c := true) (by decide) (fun hk => OpT.ine .i8 (2) (1) rfl rfl hk) ?_)
 refine W1 (OpT.pickT (.bool true) rfl rfl ?_)
 refine Wnt ?_
 refine WC.condT rfl ?_
 refine Wsr ?_
 refine W1 (OpT.assign (.bool false) rfl ?_)
 refine Wnt ?_
 refine WC.ret <| blkQ_r <| thenQ_r <| unrQ_r <| blkQ_r <| thenQ_r <| retQ.one (.bool false) rfl ?_
 refine ⟨_, rfl, ?_⟩
 refine W2 (dj := 64) rfl (OpT.not false rfl ?_)
 refine W1 (OpT.pickT (.bool true) rfl rfl ?_)
 refine W1 (OpT.assign (.bool true) rfl ?_)
 refine Wnt ?_
 refine WC.ret <| retQ.one (.bool true) rfl ?_
 exact ⟨_, rfl, rfl, (hx4.back (hx18.back (hx41.back (hx127.back (St.selD 4 [] rfl rfl (by decide) st226)))))⟩

theorem DependKinds_spec {Z : Nat → Prop} {w0 w : World} {L : List Res} (st : St Z w0 w L) (v : Value) (rs : List Rul) (hv : rRul.sl Z w0 v rs) : Calls Try.prog 3 #[v] w (Ret fun r w' => r = .bool true ∧ St Z w0 w' L) :=
  Kinds_spec st v rs hv (fun st => lives_spec st)
end Go.Ped
