/- The rule that may be used, and the rule that makes values. -/
import Derived.Test.YtojkakpkmfopbaaF16
set_option linter.unusedVariables false
set_option maxRecDepth 20000
namespace Go.Ped
open Go Go.Eng Go.RowKit Go.Proofs

theorem cal26 : CallOk Try.prog 26 := ⟨⟨Try.f26, Try.func26, rfl, by decide⟩⟩
theorem cal15 : CallOk Try.prog 15 := ⟨⟨Try.f15, Try.func15, rfl, by decide⟩⟩
theorem cal14 : CallOk Try.prog 14 := ⟨⟨Try.f14, Try.func14, rfl, by decide⟩⟩
theorem tb61 : (Try.prog.info? 61).map (·.bytes) = some 216 := by kernel_rfl
theorem tp31 : placesB Try.prog 31 = some [(0, 1), (1, 1), (2, 1)] := by kernel_rfl
theorem tz31 : zeroB Try.prog 31 = some (.agg #[(.string (⟨#[]⟩ : ByteArray)), (.slice none 0 0), (.slice none 0 0)]) := by kernel_rfl
def ruleE (y : Rul) : Int := if rulB y then (if subB (addVars [] (rulT y)) (limF y.body) then 0 else 73) else 40
def isPos (x : Ltr) : Bool := decide (x.kind = 1)
def wkB (xs : List Ltr) : Bool := xs.any fun x => decide (x.kind = 3) && (decide (x.left.op ≠ 0) || decide (x.right.op ≠ 0))
def makesB (y : Rul) : Bool := decide (ruleE y = 0) && (wkB y.body && !subB (addVars [] (rulT (⟨⟨#[]⟩, y.head, []⟩ : Rul))) (limF (y.body.filter isPos)))
theorem wk_step {xs : List Ltr} {i : Nat} {x : Ltr} (hx : xs[i]? = some x) : wkB (xs.take (i + 1)) = (wkB (xs.take i) || (decide (x.kind = 3) && (decide (x.left.op ≠ 0) || decide (x.right.op ≠ 0)))) := by
  rw [List.take_add_one, hx, wkB, List.any_append]; simp [wkB]
theorem pos_in {xs : List Ltr} {i : Nat} {x : Ltr} (hx : xs[i]? = some x) (h : x.kind = 1) : (xs.take (i + 1)).filter isPos = (xs.take i).filter isPos ++ [x] := by
  rw [List.take_add_one, hx, List.filter_append]; simp [isPos, h]
theorem pos_out {xs : List Ltr} {i : Nat} {x : Ltr} (hx : xs[i]? = some x) (h : ¬ x.kind = 1) : (xs.take (i + 1)).filter isPos = (xs.take i).filter isPos := by
  rw [List.take_add_one, hx, List.filter_append]; simp [isPos, h]
theorem pos_len (xs : List Ltr) (i : Nat) : ((xs.take i).filter isPos).length ≤ i := Nat.le_trans (List.length_filter_le _ _) (by rw [List.length_take]; omega)
theorem filter_flat (p : Ltr → Bool) (xs : List Ltr) : ((xs.filter p).flatMap ltrT).length ≤ (xs.flatMap ltrT).length := by
  induction xs with
  | nil => simp
  | cons x xs ih => rw [List.filter_cons]; split <;> simp only [List.flatMap_cons, List.length_append] <;> omega
theorem flat_len {α β : Type} (f : α → List β) (xs : List α) (h : ∀ x, 1 ≤ (f x).length) : xs.length ≤ (xs.flatMap f).length := by
  induction xs with
  | nil => simp
  | cons x xs ih => have := h x; simp only [List.flatMap_cons, List.length_append, List.length_cons]; omega
theorem ltrT_pos (x : Ltr) : 1 ≤ (ltrT x).length := by have := expT_pos x.left; simp only [ltrT, List.length_append]; omega
theorem Rule_spec {Z : Nat → Prop} {w0 w : World} {L : List Res} (st : St Z w0 w L) (y : Rul) (hl : (rulT y).length < 536870912) (av bv : Value) (ha : rAgr.sl Z w0 av y.head) (hb : rLtr.sl Z w0 bv y.body) : Calls Try.prog 14 #[(.agg #[(.string y.pred), av, bv])] w (Ret fun r w' => r = .int .i64 (ruleE y) ∧ St Z w0 w' L) := by
 have hrl := hl
 simp only [rulT, List.length_append] at hrl
 have hav := addVars_len [] (rulT y)
 simp only [List.length_nil] at hav
 refine calls_of_WC (m := 16) (rs := [.tmp 2]) Try.func14 rfl rfl rfl rfl ?_
 refine Wsr ?_
 refine W1 (OpT.box st (.agg #[(.string y.pred), av, bv]) [(.string y.pred), av, bv] rfl rfl (fun b1 w2 st3 => ?_))
 refine W1 (OpT.assign (ii 0) rfl ?_)
 refine Wnt ?_
 refine WC.seq ?_
 refine Wsr ?_
 refine W1 (OpT.loadA ⟨b1, 0, none⟩ 3 [(.string y.pred), av, bv] ta31 ts31 rfl ((st3.rowB (i := 0) rfl).part 0 3) rfl ?_)
 refine W1 (OpT.callS cal26 [] [] [(.agg #[(.string y.pred), av, bv])] rfl (ca1 rfl) (CheckRule_spec st3 y (by omega) _ _ ha hb) ?_)
 rintro v4 w5 ⟨rfl, st6⟩
 refine W1 (OpT.assign (.int .i64 (errn (rulB y) 40)) rfl ?_)
 refine Wns ?_
 refine W1 (OpT.move (.int .i64 (errn (rulB y) 40)) rfl ?_)
 refine W1 (OpT.ine .i64 (errn (rulB y) 40) (0) rfl rfl ?_)
 refine Wnt ?_
 refine WC.condP ((errn (rulB y) 40) ≠ 0) rfl (fun h7 => ?_) (fun h7 => ?_)
 ·have h7b := errn_ne _ h7
  refine Wsr ?_
  refine W1 (OpT.move (.int .i64 (errn (rulB y) 40)) rfl ?_)
  refine W1 (OpT.assign (.int .i64 (errn (rulB y) 40)) rfl ?_)
  refine Wnt ?_
  refine WC.ret <| thenQ_r <| retQ.one (.int .i64 (errn (rulB y) 40)) rfl ?_
  exact ⟨_, rfl, congrArg (Value.int .i64) (by simp only [ruleE]; simp [h7b, errn]), (St.selT [Blk b1 31 [(.string y.pred), av, bv]] [] rfl (by decide) st6)⟩
 have h7b := errn_eq _ h7
 refine WC.skip ?_
 refine thenQ_n ?_
 refine WC.seq ?_
 refine WC.seq ?_
 refine WC.drawV2 5 (fun jj vals vv => match jj with | 0 => vv = (pt b1 2) | 1 => vv = bv | 2 => vv.oneCell' = true ∧ vv.cells = #[vv] | 3 => vv = (.agg #[(.string y.pred), av, bv]) | 4 => vv.oneCell' = true ∧ vv.cells = #[vv] | _ => True) (fun jj vals vv => match jj with | 2 => [Fnd vv (limF y.body)] | 4 => [Row 9 1 vv (addVars [] (rulT y)).length ((addVars [] (rulT y)).map Value.string)] | _ => []) st6 fmix (by kernel_rfl) ((obS (obS (obS (obS (obS ob0 (fun aa bb vv h hf => hf)) (fun aa bb vv h hf => hf)) (fun aa bb vv h hf => hf)) (fun aa bb vv h hf => hf)) (fun aa bb vv h hf => hf))) ((obS (obS (obS (obS (obS ob0 (fun aa bb vv h => rfl)) (fun aa bb vv h => rfl)) (fun aa bb vv h => rfl)) (fun aa bb vv h => rfl)) (fun aa bb vv h => rfl))) ((obS (obS (obS (obS (obS ob0 ?_) ?_) ?_) ?_) ?_)) ?_
 ·intro vals ρ w9 X hd h0 st8
  have e10 : ρ 1 = (pt b1 0) := (h0 1 rfl).trans rfl
  refine W1 (OpT.field 2 ⟨b1, 0, none⟩ ⟨b1, 2, none⟩ tf31_2 e10 rfl ?_)
  refine WL.nil ?_
  exact oneQ.mk ⟨rfl, st8⟩
 ·intro vals ρ w12 X hd h0 st11
  have e13 : ρ 9 = (pt b1 2) := ((hd 0 rfl).2 9 rfl).trans (hd 0 rfl).1
  refine W1 (OpT.loadS ⟨b1, 2, none⟩ bv ta29 e13 (st11.cellB (i := 0) rfl rfl) ?_)
  refine WL.nil ?_
  exact oneQ.mk ⟨rfl, st11⟩
 ·intro vals ρ w15 X hd h0 st14
  have e16 : ρ 10 = bv := ((hd 1 rfl).2 10 rfl).trans (hd 1 rfl).1
  refine W1 (OpT.callS cal15 [] [] [bv] rfl (ca1 e16) (limits_spec st14 _ y.body hb (by omega)) ?_)
  rintro v19 w20 ⟨o17, c18, st21⟩
  refine WL.nil ?_
  exact oneQ.mk ⟨⟨o17, c18⟩, st21⟩
 ·intro vals ρ w23 X hd h0 st22
  have e24 : ρ 1 = (pt b1 0) := (h0 1 rfl).trans rfl
  refine W1 (OpT.loadA ⟨b1, 0, none⟩ 3 [(.string y.pred), av, bv] ta31 ts31 e24 ((st22.rowB (i := 0) rfl).part 0 3) rfl ?_)
  refine WL.nil ?_
  exact oneQ.mk ⟨rfl, st22⟩
 ·intro vals ρ w26 X hd h0 st25
  have e27 : ρ 12 = (.agg #[(.string y.pred), av, bv]) := ((hd 3 rfl).2 12 rfl).trans (hd 3 rfl).1
  refine W1 (OpT.callS cal17 [] [] [(.agg #[(.string y.pred), av, bv])] rfl (ca1 e27) (RuleVars_spec st25 y (by omega) _ _ ha hb) ?_)
  rintro v30 w31 st32
  have o28 := st32.rowOne (i := 0) rfl
  have c29 := st32.rowCel (i := 0) rfl
  refine WL.nil ?_
  exact oneQ.mk ⟨⟨o28, c29⟩, st32⟩
 intro vals ρ35 w34 hv h0 st33
 replace st33 : St Z w0 w34 (Fnd (vals 2) (limF y.body) :: Row 9 1 (vals 4) (addVars [] (rulT y)).length ((addVars [] (rulT y)).map Value.string) :: Blk b1 31 [(.string y.pred), av, bv] :: L) := st33
 have o36 : (vals 2).oneCell' = true := (hv 2 rfl).1.1
 have c37 : (vals 2).cells = #[vals 2] := (hv 2 rfl).1.2
 have e38 : ρ35 11 = (vals 2) := ((hv 2 rfl).2 11 rfl)
 have o39 : (vals 4).oneCell' = true := (hv 4 rfl).1.1
 have c40 : (vals 4).cells = #[vals 4] := (hv 4 rfl).1.2
 have e41 : ρ35 13 = (vals 4) := ((hv 4 rfl).2 13 rfl)
 have o42 : (vals 2).oneCell' = true := (hv 2 rfl).1.1
 have c43 : (vals 2).cells = #[vals 2] := (hv 2 rfl).1.2
 have o44 : (vals 4).oneCell' = true := (hv 4 rfl).1.1
 have c45 : (vals 4).cells = #[vals 4] := (hv 4 rfl).1.2
 clear hv h0
 generalize vals 2 = v46 at *
 generalize vals 4 = v47 at *
 obtain ⟨fb, mb, lv49, rfl, st48⟩ := Fnd.open st33
 have o50 := st48.rowOne (i := 1) rfl
 have c51 := st48.rowCel (i := 1) rfl
 obtain ⟨Z52, hz53, hw54, hr55, st57, bk56⟩ := St.freezeStr ((St.selT [Blk fb 83 [lv49, (.map (some mb))], Row 9 1 lv49 (limF y.body).length ((limF y.body).map Value.string), Mp Value.string (Value.int .i64) mb (fm (limF y.body)), Row 9 1 v47 (addVars [] (rulT y)).length ((addVars [] (rulT y)).map Value.string), Blk b1 31 [(.string y.pred), av, bv]] [3, 0, 1, 2, 4] rfl (by decide) st48) : St Z w0 w34 (Row 9 1 v47 (addVars [] (rulT y)).length ((addVars [] (rulT y)).map Value.string) :: Blk fb 83 [lv49, (.map (some mb))] :: Row 9 1 lv49 (limF y.body).length ((limF y.body).map Value.string) :: Mp Value.string (Value.int .i64) mb (fm (limF y.body)) :: Blk b1 31 [(.string y.pred), av, bv] :: L)) (by omega)
 refine W1 (OpT.callS cal16 [] [] [(pt fb 0), v47] rfl (ca2 e38 e41) (all_spec st57 _ (addVars [] (rulT y)) hr55) ?_)
 rintro v58 w59 ⟨rfl, st60⟩
 replace st60 := bk56 _ _ st60
 refine W1 (OpT.not (subB (addVars [] (rulT y)) (limF y.body)) rfl ?_)
 refine Wnt ?_
 refine WC.cond ((!(subB (addVars [] (rulT y)) (limF y.body)))) rfl (fun h61 => ?_) (fun h61 => ?_)
 ·refine WC.seq ?_
  refine WC.region ?_
  refine W1 (OpT.assign (ii 73) rfl ?_)
  refine Wnt ?_
  refine WC.ret <| thenQ_r <| retQ.one (ii 73) rfl ?_
  exact ⟨_, rfl, congrArg (Value.int .i64) (by simp only [ruleE]; simp [h7b, (show (subB (addVars [] (rulT y)) (limF y.body)) = false from by simpa using h61), errn]), (St.selT [Row 9 1 v47 (addVars [] (rulT y)).length ((addVars [] (rulT y)).map Value.string), Blk fb 83 [lv49, (.map (some mb))], Row 9 1 lv49 (limF y.body).length ((limF y.body).map Value.string), Mp Value.string (Value.int .i64) mb (fm (limF y.body)), Blk b1 31 [(.string y.pred), av, bv]] [] rfl (by decide) st60)⟩
 refine WC.skip ?_
 refine thenQ_n ?_
 refine Wsr ?_
 refine W1 (OpT.assign (ii 0) rfl ?_)
 refine Wnt ?_
 refine WC.ret <| retQ.one (ii 0) rfl ?_
 exact ⟨_, rfl, congrArg (Value.int .i64) (by simp only [ruleE]; simp [h7b, (show (subB (addVars [] (rulT y)) (limF y.body)) = true from by simpa using h61), errn]), (St.selT [Row 9 1 v47 (addVars [] (rulT y)).length ((addVars [] (rulT y)).map Value.string), Blk fb 83 [lv49, (.map (some mb))], Row 9 1 lv49 (limF y.body).length ((limF y.body).map Value.string), Mp Value.string (Value.int .i64) mb (fm (limF y.body)), Blk b1 31 [(.string y.pred), av, bv]] [] rfl (by decide) st60)⟩

theorem Makes_spec {Z : Nat → Prop} {w0 w : World} {L : List Res} (st : St Z w0 w L) (y : Rul) (hl : (rulT y).length < 536870912) (av bv : Value) (ha : rAgr.sl Z w0 av y.head) (hb : rLtr.sl Z w0 bv y.body) : Calls Try.prog 6 #[(.agg #[(.string y.pred), av, bv])] w (Ret fun r w' => r = .bool (makesB y) ∧ St Z w0 w' L) := by
 have hrl := hl
 simp only [rulT, List.length_append] at hrl
 have hav := addVars_len [] (rulT y)
 simp only [List.length_nil] at hav
 have hal0 := Rl.sl_le hb
 have hfq := flat_len ltrT y.body ltrT_pos
 refine calls_of_WC (m := 52) (rs := [.tmp 2]) Try.func6 rfl rfl rfl rfl ?_
 refine Wsr ?_
 refine W1 (OpT.box st (.agg #[(.string y.pred), av, bv]) [(.string y.pred), av, bv] rfl rfl (fun b1 w2 st3 => ?_))
 refine W1 (OpT.assign (.bool false) rfl ?_)
 refine Wnt ?_
 refine WC.seq ?_
 refine Wsr ?_
 refine W1 (OpT.loadA ⟨b1, 0, none⟩ 3 [(.string y.pred), av, bv] ta31 ts31 rfl ((st3.rowB (i := 0) rfl).part 0 3) rfl ?_)
 refine W1 (OpT.callS cal14 [] [] [(.agg #[(.string y.pred), av, bv])] rfl (ca1 rfl) (Rule_spec st3 y (by omega) _ _ ha hb) ?_)
 rintro v4 w5 ⟨rfl, st6⟩
 refine W1 (OpT.ine .i64 ((ruleE y)) (0) rfl rfl ?_)
 refine Wnt ?_
 refine WC.condP ((ruleE y) ≠ 0) rfl (fun h7 => ?_) (fun h7 => ?_)
 ·refine WC.seq ?_
  refine WC.region ?_
  refine W1 (OpT.assign (.bool false) rfl ?_)
  refine Wnt ?_
  refine WC.ret <| thenQ_r <| retQ.one (.bool false) rfl ?_
  exact ⟨_, rfl, congrArg Value.bool (by simp only [makesB]; simp [h7, h7]), (St.selT [Blk b1 31 [(.string y.pred), av, bv]] [] rfl (by decide) st6)⟩
 refine WC.skip ?_
 refine thenQ_n ?_
 refine Wsr ?_
 refine W1 (OpT.assign vn rfl ?_)
 refine Wns ?_
 refine W1 (OpT.assign (.bool false) rfl ?_)
 refine Wnt ?_
 refine WC.seq ?_
 refine Wsr ?_
 refine W1 (OpT.field 2 ⟨b1, 0, none⟩ ⟨b1, 2, none⟩ tf31_2 rfl rfl ?_)
 refine W1 (OpT.loadS ⟨b1, 2, none⟩ bv ta29 rfl (st6.cellB (i := 0) rfl rfl) ?_)
 refine W1 (OpT.lenR rfl tu29 hb rfl ?_)
 refine W1 (OpT.move (ii 0) rfl ?_)
 refine Wnt ?_
 refine WC.block ?_
 obtain ⟨yb, rfl⟩ : ∃ x, x = b1 := ⟨_, rfl⟩
 have st8 : St Z w0 w5 (Row 61 16 vn 0 [] :: Blk yb 31 [(.string y.pred), av, bv] :: L) := st6.rowNil 61 16
 refine WC.loop (fun m ρ wz => ∃ (i : Nat), ∃ (lf : Value), ∃ (cs2 : List Value), m = y.body.length - i ∧ i ≤ y.body.length ∧ RowsOf (rLtr.R Z w0) 16 cs2 ((y.body.take i).filter isPos) ∧ ρ 3 = lf ∧ ρ 4 = (.bool (wkB (y.body.take i))) ∧ ρ 13 = (ni i) ∧ ρ 1 = (pt yb 0) ∧ ρ 11 = bv ∧ ρ 12 = (ni (y.body.length)) ∧ St Z w0 wz (Row 61 16 lf ((y.body.take i).filter isPos).length cs2 :: Blk yb 31 [(.string y.pred), av, bv] :: L)) _ ⟨0, vn, [], rfl, by omega, RowsOf.nil, rfl, rfl, rfl, rfl, rfl, rfl, st8⟩ ?_
 rintro m9 ρ10 w11 ⟨i, lf, cs2, hm20, hp13, HR, hs16, hs15, hs14, hs17, hs18, hs19, st12⟩
 have olf := st12.rowOne (i := 0) rfl
 have clf := st12.rowCel (i := 0) rfl
 have hal := pos_len y.body i
 refine Wsr ?_
 refine W1 (OpT.ilt .i64 (((i : Nat) : Int)) (((y.body.length : Nat) : Int)) hs14 hs19 ?_)
 refine Wnt ?_
 refine WC.seq ?_
 refine WC.condP (((i : Nat) : Int) < ((y.body.length : Nat) : Int)) rfl (fun h21 => ?_) (fun h21 => ?_)
 ·refine WC.skip ?_
  refine thenQ_n ?_
  refine WC.seq ?_
  refine WC.block ?_
  refine Wsr ?_
  obtain ⟨x22, hx22⟩ : ∃ x, (y.body)[i]? = some x := ⟨_, List.getElem?_eq_getElem (by omega)⟩
  refine W1 (OpT.idxX tu29 ts61 hb hs18 .i64 (i) hs14 hx22 (fun ad23 cs24 hr25 hR26 => ?_))
  have hR26c := hR26
  obtain ⟨av27, lk28, rk29, rfl, ha30, hl31, hr32⟩ := hR26
  refine W1 (OpT.loadA ad23 16 [(.int .i8 (x22.kind)), (.string x22.atom.pred), av27, (.int .i8 (x22.rel)), (.int .i8 (x22.left.op)), (.string x22.left.term.var), (.int .i8 (x22.left.term.val.kind)), (.int .i64 (x22.left.term.val.num)), (.string x22.left.term.val.text), lk28, (.int .i8 (x22.right.op)), (.string x22.right.term.var), (.int .i8 (x22.right.term.val.kind)), (.int .i64 (x22.right.term.val.num)), (.string x22.right.term.val.text), rk29] ta61 ts61 rfl ((hr25.at st12).part 0 16) rfl ?_)
  refine W1 (OpT.alloc st12 (.agg #[(.int .i8 (0)), ve, vn, (.int .i8 (0)), (.int .i8 (0)), ve, (.int .i8 (0)), (ii 0), ve, vn, (.int .i8 (0)), ve, (.int .i8 (0)), (ii 0), ve, vn]) [(.int .i8 (0)), ve, vn, (.int .i8 (0)), (.int .i8 (0)), ve, (.int .i8 (0)), (ii 0), ve, vn, (.int .i8 (0)), ve, (.int .i8 (0)), (ii 0), ve, vn] tz61 rfl (fun b33 w34 st35 => ?_))
  refine WL.stepN (OpT.storeA st35 0 16 [(.int .i8 (x22.kind)), (.string x22.atom.pred), av27, (.int .i8 (x22.rel)), (.int .i8 (x22.left.op)), (.string x22.left.term.var), (.int .i8 (x22.left.term.val.kind)), (.int .i64 (x22.left.term.val.num)), (.string x22.left.term.val.text), lk28, (.int .i8 (x22.right.op)), (.string x22.right.term.var), (.int .i8 (x22.right.term.val.kind)), (.int .i64 (x22.right.term.val.num)), (.string x22.right.term.val.text), rk29] rfl ts61 rfl rfl (aC rfl (aC rfl (aC (Rl.sl_one ha30) (aC rfl (aC rfl (aC rfl (aC rfl (aC rfl (aC rfl (aC (Rl.sl_one hl31) (aC rfl (aC rfl (aC rfl (aC rfl (aC rfl (aC (Rl.sl_one hr32) aN)))))))))))))))) rfl rfl (fun w36 st37 => ?_))
  refine Wns ?_
  refine W1 (OpT.field 0 ⟨b33, 0, none⟩ ⟨b33, 0, none⟩ tf61_0 rfl rfl ?_)
  refine W1 (OpT.loadS ⟨b33, 0, none⟩ (.int .i8 (x22.kind)) ta51 rfl (st37.cellB (i := 0) rfl rfl) ?_)
  refine Wnt ?_
  refine WC.block ?_
  refine Wsr ?_
  refine W1 (OpT.ieq .i8 (x22.kind) (1) rfl rfl ?_)
  refine W1 (OpT.assign (.bool (decide (x22.kind = 1))) rfl ?_)
  refine Wnt ?_
  refine WC.condP (x22.kind = 1) rfl (fun h38 => ?_) (fun h38 => ?_)
  ·refine WC.region ?_
   refine W1 (OpT.move lf hs16 ?_)
   refine W1 (OpT.loadA ⟨b33, 0, none⟩ 16 [(.int .i8 (x22.kind)), (.string x22.atom.pred), av27, (.int .i8 (x22.rel)), (.int .i8 (x22.left.op)), (.string x22.left.term.var), (.int .i8 (x22.left.term.val.kind)), (.int .i64 (x22.left.term.val.num)), (.string x22.left.term.val.text), lk28, (.int .i8 (x22.right.op)), (.string x22.right.term.var), (.int .i8 (x22.right.term.val.kind)), (.int .i64 (x22.right.term.val.num)), (.string x22.right.term.val.text), rk29] ta61 ts61 rfl ((st37.rowB (i := 0) rfl).part 0 16) rfl ?_)
   refine W1 (OpT.buildSlice st37 [(0, (.agg #[(.int .i8 (x22.kind)), (.string x22.atom.pred), av27, (.int .i8 (x22.rel)), (.int .i8 (x22.left.op)), (.string x22.left.term.var), (.int .i8 (x22.left.term.val.kind)), (.int .i64 (x22.left.term.val.num)), (.string x22.left.term.val.text), lk28, (.int .i8 (x22.right.op)), (.string x22.right.term.var), (.int .i8 (x22.right.term.val.kind)), (.int .i64 (x22.right.term.val.num)), (.string x22.right.term.val.text), rk29]))] [(.int .i8 (x22.kind)), (.string x22.atom.pred), av27, (.int .i8 (x22.rel)), (.int .i8 (x22.left.op)), (.string x22.left.term.var), (.int .i8 (x22.left.term.val.kind)), (.int .i64 (x22.left.term.val.num)), (.string x22.left.term.val.text), lk28, (.int .i8 (x22.right.op)), (.string x22.right.term.var), (.int .i8 (x22.right.term.val.kind)), (.int .i64 (x22.right.term.val.num)), (.string x22.right.term.val.text), rk29] tu29 ts61 tz61 (mp1 rfl) (by kernel_rfl) (by decide) (fun b39 w40 st41 => ?_))
   have st42 : St Z w0 w40 (Blk b39 61 [(.int .i8 (x22.kind)), (.string x22.atom.pred), av27, (.int .i8 (x22.rel)), (.int .i8 (x22.left.op)), (.string x22.left.term.var), (.int .i8 (x22.left.term.val.kind)), (.int .i64 (x22.left.term.val.num)), (.string x22.left.term.val.text), lk28, (.int .i8 (x22.right.op)), (.string x22.right.term.var), (.int .i8 (x22.right.term.val.kind)), (.int .i64 (x22.right.term.val.num)), (.string x22.right.term.val.text), rk29] :: Row 61 16 lf ((y.body.take i).filter isPos).length cs2 :: Blk b33 61 [(.int .i8 (x22.kind)), (.string x22.atom.pred), av27, (.int .i8 (x22.rel)), (.int .i8 (x22.left.op)), (.string x22.left.term.var), (.int .i8 (x22.left.term.val.kind)), (.int .i64 (x22.left.term.val.num)), (.string x22.left.term.val.text), lk28, (.int .i8 (x22.right.op)), (.string x22.right.term.var), (.int .i8 (x22.right.term.val.kind)), (.int .i64 (x22.right.term.val.num)), (.string x22.right.term.val.text), rk29] :: Blk yb 31 [(.string y.pred), av, bv] :: L) := St.selT [Blk b39 61 [(.int .i8 (x22.kind)), (.string x22.atom.pred), av27, (.int .i8 (x22.rel)), (.int .i8 (x22.left.op)), (.string x22.left.term.var), (.int .i8 (x22.left.term.val.kind)), (.int .i64 (x22.left.term.val.num)), (.string x22.left.term.val.text), lk28, (.int .i8 (x22.right.op)), (.string x22.right.term.var), (.int .i8 (x22.right.term.val.kind)), (.int .i64 (x22.right.term.val.num)), (.string x22.right.term.val.text), rk29], Blk b33 61 [(.int .i8 (x22.kind)), (.string x22.atom.pred), av27, (.int .i8 (x22.rel)), (.int .i8 (x22.left.op)), (.string x22.left.term.var), (.int .i8 (x22.left.term.val.kind)), (.int .i64 (x22.left.term.val.num)), (.string x22.left.term.val.text), lk28, (.int .i8 (x22.right.op)), (.string x22.right.term.var), (.int .i8 (x22.right.term.val.kind)), (.int .i64 (x22.right.term.val.num)), (.string x22.right.term.val.text), rk29], Row 61 16 lf ((y.body.take i).filter isPos).length cs2, Blk yb 31 [(.string y.pred), av, bv]] [0, 2, 1, 3] rfl (by decide) st41
   refine W1 (OpT.append st42 1 tu29 ts61 tz61 rfl tb61 (by decide) rfl rfl rfl (aC rfl (aC rfl (aC (Rl.sl_one ha30) (aC rfl (aC rfl (aC rfl (aC rfl (aC rfl (aC rfl (aC (Rl.sl_one hl31) (aC rfl (aC rfl (aC rfl (aC rfl (aC rfl (aC (Rl.sl_one hr32) aN)))))))))))))))) (by omega) (by omega) (fun v43 w44 st45 hn46 => ?_))
   have o47 := st45.rowOne (i := 0) rfl
   have c48 := st45.rowCel (i := 0) rfl
   refine W1 (OpT.assign v43 rfl ?_)
   refine WL.nil ?_
   refine blkQ_n ?_
   refine blkQ_n ?_
   refine thenQ_n ?_
   refine WC.region ?_
   refine W1 (OpT.iadd .i64 (((i : Nat) : Int)) (1) (((i + 1 : Nat) : Int)) hs14 rfl (wadd (a := i) (b := 1) (by omega)) ?_)
   refine W1 (OpT.move (ni (i + 1)) rfl ?_)
   refine WL.nil ?_
   have e50 := pos_in hx22 h38
   have st49 : St Z w0 w44 (Row 61 16 v43 ((y.body.take (i + 1)).filter isPos).length (cs2 ++ [(.int .i8 (x22.kind)), (.string x22.atom.pred), av27, (.int .i8 (x22.rel)), (.int .i8 (x22.left.op)), (.string x22.left.term.var), (.int .i8 (x22.left.term.val.kind)), (.int .i64 (x22.left.term.val.num)), (.string x22.left.term.val.text), lk28, (.int .i8 (x22.right.op)), (.string x22.right.term.var), (.int .i8 (x22.right.term.val.kind)), (.int .i64 (x22.right.term.val.num)), (.string x22.right.term.val.text), rk29]) :: Blk yb 31 [(.string y.pred), av, bv] :: L) := by rw [e50]; simp only [List.length_append, List.length_cons, List.length_nil]; exact (St.selT [Row 61 16 v43 (((y.body.take i).filter isPos).length + 1) (cs2 ++ [(.int .i8 (x22.kind)), (.string x22.atom.pred), av27, (.int .i8 (x22.rel)), (.int .i8 (x22.left.op)), (.string x22.left.term.var), (.int .i8 (x22.left.term.val.kind)), (.int .i64 (x22.left.term.val.num)), (.string x22.left.term.val.text), lk28, (.int .i8 (x22.right.op)), (.string x22.right.term.var), (.int .i8 (x22.right.term.val.kind)), (.int .i64 (x22.right.term.val.num)), (.string x22.right.term.val.text), rk29]), Blk b33 61 [(.int .i8 (x22.kind)), (.string x22.atom.pred), av27, (.int .i8 (x22.rel)), (.int .i8 (x22.left.op)), (.string x22.left.term.var), (.int .i8 (x22.left.term.val.kind)), (.int .i64 (x22.left.term.val.num)), (.string x22.left.term.val.text), lk28, (.int .i8 (x22.right.op)), (.string x22.right.term.var), (.int .i8 (x22.right.term.val.kind)), (.int .i64 (x22.right.term.val.num)), (.string x22.right.term.val.text), rk29], Blk yb 31 [(.string y.pred), av, bv]] [0, 2] rfl (by decide) st45)
   have e51 : wkB (y.body.take (i + 1)) = (wkB (y.body.take i)) := by rw [wk_step hx22]; simp [h38]
   exact loopQ_n _ (by omega) ⟨i + 1, v43, (cs2 ++ [(.int .i8 (x22.kind)), (.string x22.atom.pred), av27, (.int .i8 (x22.rel)), (.int .i8 (x22.left.op)), (.string x22.left.term.var), (.int .i8 (x22.left.term.val.kind)), (.int .i64 (x22.left.term.val.num)), (.string x22.left.term.val.text), lk28, (.int .i8 (x22.right.op)), (.string x22.right.term.var), (.int .i8 (x22.right.term.val.kind)), (.int .i64 (x22.right.term.val.num)), (.string x22.right.term.val.text), rk29]), rfl, by omega, by rw [e50]; exact HR.snoc rfl hR26c, rfl, (hs15.trans (congrArg Value.bool e51.symm)), rfl, hs17, hs18, hs19, st49⟩
  refine Wsr ?_
  refine W1 (OpT.ieq .i8 (x22.kind) (3) rfl rfl ?_)
  refine W1 (OpT.assign (.bool (decide (x22.kind = 3))) rfl ?_)
  refine Wnt ?_
  refine WC.condP (x22.kind = 3) rfl (fun h52 => ?_) (fun h52 => ?_)
  ·refine WC.region ?_
   refine W1 (OpT.move (.bool (wkB (y.body.take i))) hs15 ?_)
   refine W1 (OpT.move (.bool (wkB (y.body.take i))) rfl ?_)
   by_cases h53 : (wkB (y.body.take i)) = true
   ·refine WL.pass (dj := 28) (c := true) rfl rfl rfl (congrArg Value.bool h53) rfl ?_
    refine WL.pass (dj := 28) (c := true) rfl rfl rfl (congrArg Value.bool h53) rfl ?_
    refine WL.pass (dj := 28) (c := true) rfl rfl rfl (congrArg Value.bool h53) rfl ?_
    refine WL.pass (dj := 28) (c := true) rfl rfl rfl (congrArg Value.bool h53) rfl ?_
    refine W1 (OpT.pickT (.bool true) (congrArg Value.bool h53) rfl ?_)
    refine W1 (OpT.move (.bool true) rfl ?_)
    refine WL.pass (dj := 34) (c := true) rfl rfl rfl rfl rfl ?_
    refine WL.pass (dj := 34) (c := true) rfl rfl rfl rfl rfl ?_
    refine WL.pass (dj := 34) (c := true) rfl rfl rfl rfl rfl ?_
    refine WL.pass (dj := 34) (c := true) rfl rfl rfl rfl rfl ?_
    refine W1 (OpT.pickT (.bool true) rfl rfl ?_)
    refine W1 (OpT.assign (.bool true) rfl ?_)
    refine WL.nil ?_
    refine blkQ_n ?_
    refine blkQ_n ?_
    refine thenQ_n ?_
    refine WC.region ?_
    refine W1 (OpT.iadd .i64 (((i : Nat) : Int)) (1) (((i + 1 : Nat) : Int)) hs14 rfl (wadd (a := i) (b := 1) (by omega)) ?_)
    refine W1 (OpT.move (ni (i + 1)) rfl ?_)
    refine WL.nil ?_
    have e55 := pos_out hx22 h38
    have st54 : St Z w0 w36 (Row 61 16 lf ((y.body.take (i + 1)).filter isPos).length cs2 :: Blk yb 31 [(.string y.pred), av, bv] :: L) := by rw [e55]; exact (St.selT [Blk b33 61 [(.int .i8 (x22.kind)), (.string x22.atom.pred), av27, (.int .i8 (x22.rel)), (.int .i8 (x22.left.op)), (.string x22.left.term.var), (.int .i8 (x22.left.term.val.kind)), (.int .i64 (x22.left.term.val.num)), (.string x22.left.term.val.text), lk28, (.int .i8 (x22.right.op)), (.string x22.right.term.var), (.int .i8 (x22.right.term.val.kind)), (.int .i64 (x22.right.term.val.num)), (.string x22.right.term.val.text), rk29], Row 61 16 lf ((y.body.take i).filter isPos).length cs2, Blk yb 31 [(.string y.pred), av, bv]] [1, 2] rfl (by decide) st37)
    have e56 : wkB (y.body.take (i + 1)) = true := by rw [wk_step hx22]; simp [h38, h52, h53]
    exact loopQ_n _ (by omega) ⟨i + 1, lf, cs2, rfl, by omega, by rw [e55]; exact HR, hs16, ((congrArg Value.bool e56.symm)), rfl, hs17, hs18, hs19, st54⟩
   have h53 := Bool.eq_false_iff.2 h53
   refine W2 (dj := 28) (congrArg Value.bool h53) (OpT.field 4 ⟨b33, 0, none⟩ ⟨b33, 4, none⟩ tf61_3 rfl rfl ?_)
   refine W2 (dj := 28) (congrArg Value.bool h53) (OpT.field 0 ⟨b33, 4, none⟩ ⟨b33, 4, none⟩ tf59_0 rfl rfl ?_)
   refine W2 (dj := 28) (congrArg Value.bool h53) (OpT.loadS ⟨b33, 4, none⟩ (.int .i8 (x22.left.op)) ta56 rfl (st37.cellB (i := 0) rfl rfl) ?_)
   refine W2 (dj := 28) (congrArg Value.bool h53) (OpT.ine .i8 (x22.left.op) (0) rfl rfl ?_)
   refine W1 (OpT.pickF (.bool (decide (x22.left.op ≠ 0))) (congrArg Value.bool h53) rfl ?_)
   refine W1 (OpT.move (.bool (decide (x22.left.op ≠ 0))) rfl ?_)
   by_cases h57 : x22.left.op ≠ 0
   ·refine WL.pass (dj := 34) (c := true) rfl rfl rfl (bT h57) rfl ?_
    refine WL.pass (dj := 34) (c := true) rfl rfl rfl (bT h57) rfl ?_
    refine WL.pass (dj := 34) (c := true) rfl rfl rfl (bT h57) rfl ?_
    refine WL.pass (dj := 34) (c := true) rfl rfl rfl (bT h57) rfl ?_
    refine W1 (OpT.pickT (.bool true) (bT h57) rfl ?_)
    refine W1 (OpT.assign (.bool true) rfl ?_)
    refine WL.nil ?_
    refine blkQ_n ?_
    refine blkQ_n ?_
    refine thenQ_n ?_
    refine WC.region ?_
    refine W1 (OpT.iadd .i64 (((i : Nat) : Int)) (1) (((i + 1 : Nat) : Int)) hs14 rfl (wadd (a := i) (b := 1) (by omega)) ?_)
    refine W1 (OpT.move (ni (i + 1)) rfl ?_)
    refine WL.nil ?_
    have e59 := pos_out hx22 h38
    have st58 : St Z w0 w36 (Row 61 16 lf ((y.body.take (i + 1)).filter isPos).length cs2 :: Blk yb 31 [(.string y.pred), av, bv] :: L) := by rw [e59]; exact (St.selT [Blk b33 61 [(.int .i8 (x22.kind)), (.string x22.atom.pred), av27, (.int .i8 (x22.rel)), (.int .i8 (x22.left.op)), (.string x22.left.term.var), (.int .i8 (x22.left.term.val.kind)), (.int .i64 (x22.left.term.val.num)), (.string x22.left.term.val.text), lk28, (.int .i8 (x22.right.op)), (.string x22.right.term.var), (.int .i8 (x22.right.term.val.kind)), (.int .i64 (x22.right.term.val.num)), (.string x22.right.term.val.text), rk29], Row 61 16 lf ((y.body.take i).filter isPos).length cs2, Blk yb 31 [(.string y.pred), av, bv]] [1, 2] rfl (by decide) st37)
    have e60 : wkB (y.body.take (i + 1)) = true := by rw [wk_step hx22]; simp [h38, h52, h53, h57]
    exact loopQ_n _ (by omega) ⟨i + 1, lf, cs2, rfl, by omega, by rw [e59]; exact HR, hs16, ((congrArg Value.bool e60.symm)), rfl, hs17, hs18, hs19, st58⟩
   refine W2 (dj := 34) (bF h57) (OpT.field 10 ⟨b33, 0, none⟩ ⟨b33, 10, none⟩ tf61_4 rfl rfl ?_)
   refine W2 (dj := 34) (bF h57) (OpT.field 0 ⟨b33, 10, none⟩ ⟨b33, 10, none⟩ tf59_0 rfl rfl ?_)
   refine W2 (dj := 34) (bF h57) (OpT.loadS ⟨b33, 10, none⟩ (.int .i8 (x22.right.op)) ta56 rfl (st37.cellB (i := 0) rfl rfl) ?_)
   refine W2 (dj := 34) (bF h57) (OpT.ine .i8 (x22.right.op) (0) rfl rfl ?_)
   refine W1 (OpT.pickF (.bool (decide (x22.right.op ≠ 0))) (bF h57) rfl ?_)
   refine W1 (OpT.assign (.bool (decide (x22.right.op ≠ 0))) rfl ?_)
   refine WL.nil ?_
   refine blkQ_n ?_
   refine blkQ_n ?_
   refine thenQ_n ?_
   refine WC.region ?_
   refine W1 (OpT.iadd .i64 (((i : Nat) : Int)) (1) (((i + 1 : Nat) : Int)) hs14 rfl (wadd (a := i) (b := 1) (by omega)) ?_)
   refine W1 (OpT.move (ni (i + 1)) rfl ?_)
   refine WL.nil ?_
   have e62 := pos_out hx22 h38
   have st61 : St Z w0 w36 (Row 61 16 lf ((y.body.take (i + 1)).filter isPos).length cs2 :: Blk yb 31 [(.string y.pred), av, bv] :: L) := by rw [e62]; exact (St.selT [Blk b33 61 [(.int .i8 (x22.kind)), (.string x22.atom.pred), av27, (.int .i8 (x22.rel)), (.int .i8 (x22.left.op)), (.string x22.left.term.var), (.int .i8 (x22.left.term.val.kind)), (.int .i64 (x22.left.term.val.num)), (.string x22.left.term.val.text), lk28, (.int .i8 (x22.right.op)), (.string x22.right.term.var), (.int .i8 (x22.right.term.val.kind)), (.int .i64 (x22.right.term.val.num)), (.string x22.right.term.val.text), rk29], Row 61 16 lf ((y.body.take i).filter isPos).length cs2, Blk yb 31 [(.string y.pred), av, bv]] [1, 2] rfl (by decide) st37)
   have e63 : wkB (y.body.take (i + 1)) = (decide (x22.right.op ≠ 0)) := by rw [wk_step hx22]; simp [h38, h52, h53, h57]
   exact loopQ_n _ (by omega) ⟨i + 1, lf, cs2, rfl, by omega, by rw [e62]; exact HR, hs16, ((congrArg Value.bool e63.symm)), rfl, hs17, hs18, hs19, st61⟩
  refine WC.skip ?_
  refine blkQ_n ?_
  refine blkQ_n ?_
  refine thenQ_n ?_
  refine WC.region ?_
  refine W1 (OpT.iadd .i64 (((i : Nat) : Int)) (1) (((i + 1 : Nat) : Int)) hs14 rfl (wadd (a := i) (b := 1) (by omega)) ?_)
  refine W1 (OpT.move (ni (i + 1)) rfl ?_)
  refine WL.nil ?_
  have e65 := pos_out hx22 h38
  have st64 : St Z w0 w36 (Row 61 16 lf ((y.body.take (i + 1)).filter isPos).length cs2 :: Blk yb 31 [(.string y.pred), av, bv] :: L) := by rw [e65]; exact (St.selT [Blk b33 61 [(.int .i8 (x22.kind)), (.string x22.atom.pred), av27, (.int .i8 (x22.rel)), (.int .i8 (x22.left.op)), (.string x22.left.term.var), (.int .i8 (x22.left.term.val.kind)), (.int .i64 (x22.left.term.val.num)), (.string x22.left.term.val.text), lk28, (.int .i8 (x22.right.op)), (.string x22.right.term.var), (.int .i8 (x22.right.term.val.kind)), (.int .i64 (x22.right.term.val.num)), (.string x22.right.term.val.text), rk29], Row 61 16 lf ((y.body.take i).filter isPos).length cs2, Blk yb 31 [(.string y.pred), av, bv]] [1, 2] rfl (by decide) st37)
  have e66 : wkB (y.body.take (i + 1)) = (wkB (y.body.take i)) := by rw [wk_step hx22]; simp [h38, h52]
  exact loopQ_n _ (by omega) ⟨i + 1, lf, cs2, rfl, by omega, by rw [e65]; exact HR, hs16, (hs15.trans (congrArg Value.bool e66.symm)), rfl, hs17, hs18, hs19, st64⟩
 refine WC.exit ?_
 refine thenQ_x ?_
 refine loopQ_x ?_
 refine blkQ_hit ?_
 refine thenQ_n ?_
 refine WC.seq ?_
 have eT : y.body.take i = y.body := List.take_of_length_le (by omega)
 rw [eT] at HR
 have hfp := filter_flat isPos y.body
 obtain ⟨Z3, hx3, hs3, st3⟩ := St.freezeRow (r := rLtr) (xs := y.body.filter isPos) (show St Z w0 w11 (Row 61 16 lf (y.body.filter isPos).length cs2 :: Blk yb 31 [(.string y.pred), av, bv] :: L) from eT ▸ st12) (by have := List.length_filter_le isPos y.body; omega) HR.2
 have ha3 := hx3.sl ha
 have hb3 := hx3.sl hb
 have hvl := addVars_len [] (rulT (⟨⟨#[]⟩, y.head, []⟩ : Rul))
 have hvm : (rulT (⟨⟨#[]⟩, y.head, []⟩ : Rul)).length < 536870912 := by simp only [rulT, List.length_append, List.flatMap_nil, List.length_nil]; omega
 simp only [List.length_nil] at hvl
 rw [eT] at hs15
 by_cases h67 : (wkB y.body) = true
 ·refine WC.drawV2 8 (fun jj vals vv => match jj with | 0 => vv = (.bool (wkB y.body)) | 1 => vv = (.bool (wkB y.body)) | 2 => vv = lf | 3 => vv.oneCell' = true ∧ vv.cells = #[vv] | 4 => vv = (pt yb 1) | 5 => vv = av | 6 => vv = (.agg #[ve, av, vn]) | 7 => vv.oneCell' = true ∧ vv.cells = #[vv] | _ => True) (fun jj vals vv => match jj with | 3 => [Fnd vv (limF (y.body.filter isPos))] | 7 => [Row 9 1 vv (addVars [] (rulT (⟨⟨#[]⟩, y.head, []⟩ : Rul))).length ((addVars [] (rulT (⟨⟨#[]⟩, y.head, []⟩ : Rul))).map Value.string)] | _ => []) st3 fmix (by kernel_rfl) ((obS (obS (obS (obS (obS (obS (obS (obS ob0 (fun aa bb vv h hf => hf)) (fun aa bb vv h hf => hf)) (fun aa bb vv h hf => hf)) (fun aa bb vv h hf => hf)) (fun aa bb vv h hf => hf)) (fun aa bb vv h hf => hf)) (fun aa bb vv h hf => hf)) (fun aa bb vv h hf => hf))) ((obS (obS (obS (obS (obS (obS (obS (obS ob0 (fun aa bb vv h => rfl)) (fun aa bb vv h => rfl)) (fun aa bb vv h => rfl)) (fun aa bb vv h => rfl)) (fun aa bb vv h => rfl)) (fun aa bb vv h => rfl)) (fun aa bb vv h => rfl)) (fun aa bb vv h => rfl))) ((obS (obS (obS (obS (obS (obS (obS (obS ob0 ?_) ?_) ?_) ?_) ?_) ?_) ?_) ?_)) ?_
  ·intro vals ρ w69 X hd h0 st68
   have e70 : ρ 4 = (.bool (wkB y.body)) := (h0 4 rfl).trans hs15
   refine W1 (OpT.move (.bool (wkB y.body)) e70 ?_)
   refine WL.nil ?_
   exact oneQ.mk ⟨rfl, st68⟩
  ·intro vals ρ w72 X hd h0 st71
   have e73 : ρ 41 = (.bool (wkB y.body)) := ((hd 0 rfl).2 41 rfl).trans (hd 0 rfl).1
   refine W1 (OpT.move (.bool (wkB y.body)) e73 ?_)
   refine WL.nil ?_
   exact oneQ.mk ⟨rfl, st71⟩
  ·intro vals ρ w75 X hd h0 st74
   have e76 : ρ 3 = lf := (h0 3 rfl).trans hs16
   have e77 : ρ 42 = (.bool (wkB y.body)) := ((hd 1 rfl).2 42 rfl).trans (hd 1 rfl).1
   refine W2 (dj := 42) (e77.trans (congrArg Value.bool h67)) (OpT.move lf e76 ?_)
   refine WL.nil ?_
   exact oneQ.mk ⟨rfl, st74⟩
  ·intro vals ρ w79 X hd h0 st78
   have e80 : ρ 42 = (.bool (wkB y.body)) := ((hd 1 rfl).2 42 rfl).trans (hd 1 rfl).1
   have e81 : ρ 43 = lf := ((hd 2 rfl).2 43 rfl).trans (hd 2 rfl).1
   refine W2 (dj := 42) (e80.trans (congrArg Value.bool h67)) (OpT.callS cal15 [] [] [lf] rfl (ca1 e81) (limits_spec st78 _ (y.body.filter isPos) hs3 (by omega)) ?_)
   rintro v84 w85 ⟨o82, c83, st86⟩
   refine WL.nil ?_
   exact oneQ.mk ⟨⟨o82, c83⟩, st86⟩
  ·intro vals ρ w88 X hd h0 st87
   have e89 : ρ 1 = (pt yb 0) := (h0 1 rfl).trans hs17
   have e90 : ρ 42 = (.bool (wkB y.body)) := ((hd 1 rfl).2 42 rfl).trans (hd 1 rfl).1
   refine W2 (dj := 42) (e90.trans (congrArg Value.bool h67)) (OpT.field 1 ⟨yb, 0, none⟩ ⟨yb, 1, none⟩ tf31_1 e89 rfl ?_)
   refine WL.nil ?_
   exact oneQ.mk ⟨rfl, st87⟩
  ·intro vals ρ w92 X hd h0 st91
   have e93 : ρ 42 = (.bool (wkB y.body)) := ((hd 1 rfl).2 42 rfl).trans (hd 1 rfl).1
   have e94 : ρ 45 = (pt yb 1) := ((hd 4 rfl).2 45 rfl).trans (hd 4 rfl).1
   refine W2 (dj := 42) (e93.trans (congrArg Value.bool h67)) (OpT.loadS ⟨yb, 1, none⟩ av ta28 e94 (st91.cellB (i := 0) rfl rfl) ?_)
   refine WL.nil ?_
   exact oneQ.mk ⟨rfl, st91⟩
  ·intro vals ρ w96 X hd h0 st95
   have e97 : ρ 42 = (.bool (wkB y.body)) := ((hd 1 rfl).2 42 rfl).trans (hd 1 rfl).1
   have e98 : ρ 46 = av := ((hd 5 rfl).2 46 rfl).trans (hd 5 rfl).1
   refine W2 (dj := 42) (e97.trans (congrArg Value.bool h67)) (OpT.build [(1, av)] [ve, av, vn] tz31 tp31 (mp1 e98) (by first | (simp [Instr.fill, Value.cells, (Rl.sl_cells ha3)]; done) | simp [Instr.fill, (Rl.sl_cells ha3), Value.cells.eq_2, show ∀ cs, (Value.agg cs).cells = cs from fun _ => rfl]) ?_)
   refine WL.nil ?_
   exact oneQ.mk ⟨rfl, st95⟩
  ·intro vals ρ w100 X hd h0 st99
   have e101 : ρ 42 = (.bool (wkB y.body)) := ((hd 1 rfl).2 42 rfl).trans (hd 1 rfl).1
   have e102 : ρ 47 = (.agg #[ve, av, vn]) := ((hd 6 rfl).2 47 rfl).trans (hd 6 rfl).1
   refine W2 (dj := 42) (e101.trans (congrArg Value.bool h67)) (OpT.callS cal17 [] [] [(.agg #[ve, av, vn])] rfl (ca1 e102) (RuleVars_spec st99 (⟨⟨#[]⟩, y.head, []⟩ : Rul) (by omega) _ _ ha3 (Rl.sl_nil rLtr _ _ none 0)) ?_)
   rintro v105 w106 st107
   have o103 := st107.rowOne (i := 0) rfl
   have c104 := st107.rowCel (i := 0) rfl
   refine WL.nil ?_
   exact oneQ.mk ⟨⟨o103, c104⟩, st107⟩
  intro vals ρ110 w109 hv h0 st108
  replace st108 : St Z3 w11 w109 (Fnd (vals 3) (limF (y.body.filter isPos)) :: Row 9 1 (vals 7) (addVars [] (rulT (⟨⟨#[]⟩, y.head, []⟩ : Rul))).length ((addVars [] (rulT (⟨⟨#[]⟩, y.head, []⟩ : Rul))).map Value.string) :: Blk yb 31 [(.string y.pred), av, bv] :: L) := st108
  have e111 : ρ110 42 = (.bool (wkB y.body)) := ((hv 1 rfl).2 42 rfl).trans (hv 1 rfl).1
  have o112 : (vals 3).oneCell' = true := (hv 3 rfl).1.1
  have c113 : (vals 3).cells = #[vals 3] := (hv 3 rfl).1.2
  have e114 : ρ110 44 = (vals 3) := ((hv 3 rfl).2 44 rfl)
  have o115 : (vals 7).oneCell' = true := (hv 7 rfl).1.1
  have c116 : (vals 7).cells = #[vals 7] := (hv 7 rfl).1.2
  have e117 : ρ110 48 = (vals 7) := ((hv 7 rfl).2 48 rfl)
  have o118 : (vals 3).oneCell' = true := (hv 3 rfl).1.1
  have c119 : (vals 3).cells = #[vals 3] := (hv 3 rfl).1.2
  have o120 : (vals 7).oneCell' = true := (hv 7 rfl).1.1
  have c121 : (vals 7).cells = #[vals 7] := (hv 7 rfl).1.2
  clear hv h0
  generalize vals 3 = v122 at *
  generalize vals 7 = v123 at *
  obtain ⟨fb, mb, lv125, rfl, st124⟩ := Fnd.open st108
  have o126 := st124.rowOne (i := 1) rfl
  have c127 := st124.rowCel (i := 1) rfl
  obtain ⟨Z128, hz129, hw130, hr131, st133, bk132⟩ := St.freezeStr ((St.selT [Blk fb 83 [lv125, (.map (some mb))], Row 9 1 lv125 (limF (y.body.filter isPos)).length ((limF (y.body.filter isPos)).map Value.string), Mp Value.string (Value.int .i64) mb (fm (limF (y.body.filter isPos))), Row 9 1 v123 (addVars [] (rulT (⟨⟨#[]⟩, y.head, []⟩ : Rul))).length ((addVars [] (rulT (⟨⟨#[]⟩, y.head, []⟩ : Rul))).map Value.string), Blk yb 31 [(.string y.pred), av, bv]] [3, 0, 1, 2, 4] rfl (by decide) st124) : St Z3 w11 w109 (Row 9 1 v123 (addVars [] (rulT (⟨⟨#[]⟩, y.head, []⟩ : Rul))).length ((addVars [] (rulT (⟨⟨#[]⟩, y.head, []⟩ : Rul))).map Value.string) :: Blk fb 83 [lv125, (.map (some mb))] :: Row 9 1 lv125 (limF (y.body.filter isPos)).length ((limF (y.body.filter isPos)).map Value.string) :: Mp Value.string (Value.int .i64) mb (fm (limF (y.body.filter isPos))) :: Blk yb 31 [(.string y.pred), av, bv] :: L)) (by omega)
  refine W2 (dj := 42) (e111.trans (congrArg Value.bool h67)) (OpT.callS cal16 [] [] [(pt fb 0), v123] rfl (ca2 e114 e117) (all_spec st133 _ (addVars [] (rulT (⟨⟨#[]⟩, y.head, []⟩ : Rul))) hr131) ?_)
  rintro v134 w135 ⟨rfl, st136⟩
  replace st136 := bk132 _ _ st136
  refine W2 (dj := 42) (e111.trans (congrArg Value.bool h67)) (OpT.not (subB (addVars [] (rulT (⟨⟨#[]⟩, y.head, []⟩ : Rul))) (limF (y.body.filter isPos))) rfl ?_)
  refine W1 (OpT.pickT (.bool (!(subB (addVars [] (rulT (⟨⟨#[]⟩, y.head, []⟩ : Rul))) (limF (y.body.filter isPos))))) (e111.trans (congrArg Value.bool h67)) rfl ?_)
  refine W1 (OpT.assign (.bool (!(subB (addVars [] (rulT (⟨⟨#[]⟩, y.head, []⟩ : Rul))) (limF (y.body.filter isPos))))) rfl ?_)
  refine Wnt ?_
  refine WC.ret <| retQ.one (.bool (!(subB (addVars [] (rulT (⟨⟨#[]⟩, y.head, []⟩ : Rul))) (limF (y.body.filter isPos))))) rfl ?_
  exact ⟨_, rfl, congrArg Value.bool (by simp only [makesB]; simp [h67, (Classical.not_not.1 h7)]), hx3.back (St.selT [Row 9 1 v123 (addVars [] (rulT (⟨⟨#[]⟩, y.head, []⟩ : Rul))).length ((addVars [] (rulT (⟨⟨#[]⟩, y.head, []⟩ : Rul))).map Value.string), Blk fb 83 [lv125, (.map (some mb))], Row 9 1 lv125 (limF (y.body.filter isPos)).length ((limF (y.body.filter isPos)).map Value.string), Mp Value.string (Value.int .i64) mb (fm (limF (y.body.filter isPos))), Blk yb 31 [(.string y.pred), av, bv]] [] rfl (by decide) st136)⟩
 have h67 := Bool.eq_false_iff.2 h67
 refine WC.draw 8 (fun jj vv => match jj with | 0 => vv = (.bool (wkB y.body)) | 1 => vv = (.bool (wkB y.body)) | 2 => vv = undef | 3 => vv = undef | 4 => vv = undef | 5 => vv = undef | 6 => vv = undef | 7 => vv = undef | _ => True) (fun _ _ => []) st3 fmix (by kernel_rfl) ((obS (obS (obS (obS (obS (obS (obS (obS ob0 ?_) ?_) ?_) ?_) ?_) ?_) ?_) ?_)) ?_
 ·intro vals ρ w138 X hd h0 st137
  have e139 : ρ 4 = (.bool (wkB y.body)) := (h0 4 rfl).trans hs15
  refine W1 (OpT.move (.bool (wkB y.body)) e139 ?_)
  refine WL.nil ?_
  exact oneQ.mk ⟨rfl, st137⟩
 ·intro vals ρ w141 X hd h0 st140
  have e142 : ρ 41 = (.bool (wkB y.body)) := ((hd 0 rfl).2 41 rfl).trans (hd 0 rfl).1
  refine W1 (OpT.move (.bool (wkB y.body)) e142 ?_)
  refine WL.nil ?_
  exact oneQ.mk ⟨rfl, st140⟩
 ·intro vals ρ w144 X hd h0 st143
  have e145 : ρ 3 = lf := (h0 3 rfl).trans hs16
  have e146 : ρ 42 = (.bool (wkB y.body)) := ((hd 1 rfl).2 42 rfl).trans (hd 1 rfl).1
  refine WL.pass (dj := 42) (c := false) rfl rfl rfl (e146.trans (congrArg Value.bool h67)) rfl ?_
  refine WL.nil ?_
  exact oneQ.mk ⟨rfl, st143⟩
 ·intro vals ρ w148 X hd h0 st147
  have e149 : ρ 42 = (.bool (wkB y.body)) := ((hd 1 rfl).2 42 rfl).trans (hd 1 rfl).1
  have e150 : ρ 43 = undef := ((hd 2 rfl).2 43 rfl).trans (hd 2 rfl).1
  refine WL.pass (dj := 42) (c := false) rfl rfl rfl (e149.trans (congrArg Value.bool h67)) rfl ?_
  refine WL.nil ?_
  exact oneQ.mk ⟨rfl, st147⟩
 ·intro vals ρ w152 X hd h0 st151
  have e153 : ρ 1 = (pt yb 0) := (h0 1 rfl).trans hs17
  have e154 : ρ 42 = (.bool (wkB y.body)) := ((hd 1 rfl).2 42 rfl).trans (hd 1 rfl).1
  refine WL.pass (dj := 42) (c := false) rfl rfl rfl (e154.trans (congrArg Value.bool h67)) rfl ?_
  refine WL.nil ?_
  exact oneQ.mk ⟨rfl, st151⟩
 ·intro vals ρ w156 X hd h0 st155
  have e157 : ρ 42 = (.bool (wkB y.body)) := ((hd 1 rfl).2 42 rfl).trans (hd 1 rfl).1
  have e158 : ρ 45 = undef := ((hd 4 rfl).2 45 rfl).trans (hd 4 rfl).1
  refine WL.pass (dj := 42) (c := false) rfl rfl rfl (e157.trans (congrArg Value.bool h67)) rfl ?_
  refine WL.nil ?_
  exact oneQ.mk ⟨rfl, st155⟩
 ·intro vals ρ w160 X hd h0 st159
  have e161 : ρ 42 = (.bool (wkB y.body)) := ((hd 1 rfl).2 42 rfl).trans (hd 1 rfl).1
  have e162 : ρ 46 = undef := ((hd 5 rfl).2 46 rfl).trans (hd 5 rfl).1
  refine WL.pass (dj := 42) (c := false) rfl rfl rfl (e161.trans (congrArg Value.bool h67)) rfl ?_
  refine WL.nil ?_
  exact oneQ.mk ⟨rfl, st159⟩
 ·intro vals ρ w164 X hd h0 st163
  have e165 : ρ 42 = (.bool (wkB y.body)) := ((hd 1 rfl).2 42 rfl).trans (hd 1 rfl).1
  have e166 : ρ 47 = undef := ((hd 6 rfl).2 47 rfl).trans (hd 6 rfl).1
  refine WL.pass (dj := 42) (c := false) rfl rfl rfl (e165.trans (congrArg Value.bool h67)) rfl ?_
  refine WL.nil ?_
  exact oneQ.mk ⟨rfl, st163⟩
 intro vals ρ169 w168 hv h0 st167
 replace st167 : St Z3 w11 w168 (Blk yb 31 [(.string y.pred), av, bv] :: L) := st167
 have e170 : ρ169 42 = (.bool (wkB y.body)) := ((hv 1 rfl).2 42 rfl).trans (hv 1 rfl).1
 clear hv h0
 refine WL.pass (dj := 42) (c := false) rfl rfl rfl (e170.trans (congrArg Value.bool h67)) rfl ?_
 refine WL.pass (dj := 42) (c := false) rfl rfl rfl (e170.trans (congrArg Value.bool h67)) rfl ?_
 refine W1 (OpT.pickF (.bool false) (e170.trans (congrArg Value.bool h67)) rfl ?_)
 refine W1 (OpT.assign (.bool false) rfl ?_)
 refine Wnt ?_
 refine WC.ret <| retQ.one (.bool false) rfl ?_
 exact ⟨_, rfl, congrArg Value.bool (by simp only [makesB]; simp [h67, (Classical.not_not.1 h7)]), hx3.back (St.selT [Blk yb 31 [(.string y.pred), av, bv]] [] rfl (by decide) st167)⟩

end Go.Ped
