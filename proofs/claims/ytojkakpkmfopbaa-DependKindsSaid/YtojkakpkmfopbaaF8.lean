/- The variables of a rule, an atom, an expression; whether a rule is well formed. -/
import Derived.Test.YtojkakpkmfopbaaEngI
import Derived.Test.YtojkakpkmfopbaaF7
set_option linter.unusedVariables false
set_option maxRecDepth 20000
namespace Go.Ped
open Go Go.Eng Go.RowKit Go.Proofs

theorem tz68 : zeroB Try.prog 68 = some (.slice none 0 0) := by kernel_rfl
theorem tz81 : zeroB Try.prog 81 = some (.map none) := by kernel_rfl
theorem ts81 : sizeB Try.prog 81 = some 1 := by kernel_rfl
theorem cal34 : CallOk Try.prog 34 := ⟨⟨Try.f34, Try.func34, rfl, by decide⟩⟩
theorem tf31_0 : fieldB Try.prog 31 0 = some 0 := by kernel_rfl
theorem tz40 : zeroB Try.prog 40 = some (.agg #[(.int .i8 (0)), (.string (⟨#[]⟩ : ByteArray)), (.int .i8 (0)), (.int .i64 (0)), (.string (⟨#[]⟩ : ByteArray))]) := by kernel_rfl
theorem cal43 : CallOk Try.prog 43 := ⟨⟨Try.f43, Try.func43, rfl, by decide⟩⟩
theorem ta61 : aggB Try.prog 61 = some true := by kernel_rfl
theorem tz61 : zeroB Try.prog 61 = some (.agg #[(.int .i8 (0)), (.string (⟨#[]⟩ : ByteArray)), (.slice none 0 0), (.int .i8 (0)), (.int .i8 (0)), (.string (⟨#[]⟩ : ByteArray)), (.int .i8 (0)), (.int .i64 (0)), (.string (⟨#[]⟩ : ByteArray)), (.slice none 0 0), (.int .i8 (0)), (.string (⟨#[]⟩ : ByteArray)), (.int .i8 (0)), (.int .i64 (0)), (.string (⟨#[]⟩ : ByteArray)), (.slice none 0 0)]) := by kernel_rfl
theorem cal44 : CallOk Try.prog 44 := ⟨⟨Try.f44, Try.func44, rfl, by decide⟩⟩
theorem cal17 : CallOk Try.prog 17 := ⟨⟨Try.f17, Try.func17, rfl, by decide⟩⟩
theorem vars_Atm {Z : Nat → Prop} {w0 w : World} {L : List Res} (st : St Z w0 w L) (y : Atm) (hl : (atmT y).length < 1073741824) (ad : Addr) (av : Value) (hr : RowZ Z w0 ad [(.string y.pred), av]) (ha : rTrm.sl Z w0 av y.args) : Calls Try.prog 34 #[(.iface 117 (.pointer (some ad)))] w (Ret fun r w' => St Z w0 w' (Row 9 1 r (addVars [] (atmT y)).length ((addVars [] (atmT y)).map Value.string) :: L)) := by
 refine calls_of_WC (m := 10) (rs := [.tmp 2]) Try.func34 rfl rfl rfl rfl ?_
 refine Wsr ?_
 refine W1 (OpT.assign vn rfl ?_)
 refine Wns ?_
 refine W1 (OpT.alloc st vn [vn] tz68 rfl (fun b1 w2 st3 => ?_))
 refine Wns ?_
 refine W1 (OpT.makeMap Value.string (Value.int .i64) st3 (fun b4 w5 st6 => ?_))
 refine W1 (OpT.alloc st6 (.map none) [(.map none)] tz81 rfl (fun b7 w8 st9 => ?_))
 refine WL.stepN (OpT.storeS st9 0 (.map (some b4)) rfl ts81 rfl rfl rfl rfl rfl (fun w10 st11 => ?_))
 refine Wns ?_
 refine W1 (OpT.move (.iface 117 (.pointer (some ad))) rfl ?_)
 refine W1 (OpT.makeFunc [] [(pt b7 0), (pt b1 0)] mk0 (mk2 rfl rfl) ?_)
 have st12 := st11.rowNil 9 1
 have st13 : St Z w0 w10 (VS b1 b7 b4 vn [] L) := (St.selT [Row 9 1 vn 0 [], Blk b7 81 [(.map (some b4))], (Mp Value.string (Value.int .i64) b4 ([] : List (ByteArray × Int))), Blk b1 68 [vn]] [3, 1, 0, 2] rfl (by decide) st12)
 refine W1 (OpT.callS cal46 [] [] [(.iface 117 (.pointer (some ad))), (.func (.func 47) #[] #[(pt b7 0), (pt b1 0)])] rfl (ca2 rfl rfl) (walk_Atm st13 y (by simp only [List.length_nil]; omega) _ _ hr ha) ?_)
 rintro v17 w18 ⟨rfl, lv14, st19⟩
 have o15 := st19.rowOne (i := 2) rfl
 have c16 := st19.rowCel (i := 2) rfl
 refine Wns ?_
 refine W1 (OpT.loadS ⟨b1, 0, none⟩ lv14 ta68 rfl (st19.cellB (i := 0) rfl rfl) ?_)
 refine W1 (OpT.assign lv14 rfl ?_)
 refine Wnt ?_
 refine WC.ret <| retQ.one lv14 rfl ?_
 exact ⟨_, rfl, (St.selT [Blk b1 68 [lv14], Blk b7 81 [(.map (some b4))], Row 9 1 lv14 (addVars [] (atmT y)).length ((addVars [] (atmT y)).map Value.string), Mp Value.string (Value.int .i64) b4 (fm (addVars [] (atmT y)))] [2] rfl (by decide) st19)⟩

theorem vars_Exp {Z : Nat → Prop} {w0 w : World} {L : List Res} (st : St Z w0 w L) (y : Exp) (hl : (expT y).length < 1073741824) (ad : Addr) (kv : Value) (hr : RowZ Z w0 ad [(.int .i8 (y.op)), (.string y.term.var), (.int .i8 (y.term.val.kind)), (.int .i64 (y.term.val.num)), (.string y.term.val.text), kv]) (hk : rExp.sl Z w0 kv y.kids) : Calls Try.prog 34 #[(.iface 118 (.pointer (some ad)))] w (Ret fun r w' => St Z w0 w' (Row 9 1 r (addVars [] (expT y)).length ((addVars [] (expT y)).map Value.string) :: L)) := by
 refine calls_of_WC (m := 10) (rs := [.tmp 2]) Try.func34 rfl rfl rfl rfl ?_
 refine Wsr ?_
 refine W1 (OpT.assign vn rfl ?_)
 refine Wns ?_
 refine W1 (OpT.alloc st vn [vn] tz68 rfl (fun b1 w2 st3 => ?_))
 refine Wns ?_
 refine W1 (OpT.makeMap Value.string (Value.int .i64) st3 (fun b4 w5 st6 => ?_))
 refine W1 (OpT.alloc st6 (.map none) [(.map none)] tz81 rfl (fun b7 w8 st9 => ?_))
 refine WL.stepN (OpT.storeS st9 0 (.map (some b4)) rfl ts81 rfl rfl rfl rfl rfl (fun w10 st11 => ?_))
 refine Wns ?_
 refine W1 (OpT.move (.iface 118 (.pointer (some ad))) rfl ?_)
 refine W1 (OpT.makeFunc [] [(pt b7 0), (pt b1 0)] mk0 (mk2 rfl rfl) ?_)
 have st12 := st11.rowNil 9 1
 have st13 : St Z w0 w10 (VS b1 b7 b4 vn [] L) := (St.selT [Row 9 1 vn 0 [], Blk b7 81 [(.map (some b4))], (Mp Value.string (Value.int .i64) b4 ([] : List (ByteArray × Int))), Blk b1 68 [vn]] [3, 1, 0, 2] rfl (by decide) st12)
 refine W1 (OpT.callS cal46 [] [] [(.iface 118 (.pointer (some ad))), (.func (.func 47) #[] #[(pt b7 0), (pt b1 0)])] rfl (ca2 rfl rfl) (walk_Exp st13 y (by simp only [List.length_nil]; omega) _ _ hr hk) ?_)
 rintro v17 w18 ⟨rfl, lv14, st19⟩
 have o15 := st19.rowOne (i := 2) rfl
 have c16 := st19.rowCel (i := 2) rfl
 refine Wns ?_
 refine W1 (OpT.loadS ⟨b1, 0, none⟩ lv14 ta68 rfl (st19.cellB (i := 0) rfl rfl) ?_)
 refine W1 (OpT.assign lv14 rfl ?_)
 refine Wnt ?_
 refine WC.ret <| retQ.one lv14 rfl ?_
 exact ⟨_, rfl, (St.selT [Blk b1 68 [lv14], Blk b7 81 [(.map (some b4))], Row 9 1 lv14 (addVars [] (expT y)).length ((addVars [] (expT y)).map Value.string), Mp Value.string (Value.int .i64) b4 (fm (addVars [] (expT y)))] [2] rfl (by decide) st19)⟩

theorem vars_Rul {Z : Nat → Prop} {w0 w : World} {L : List Res} (st : St Z w0 w L) (y : Rul) (hl : (rulT y).length < 1073741824) (ad : Addr) (av bv : Value) (hr : RowZ Z w0 ad [(.string y.pred), av, bv]) (ha : rAgr.sl Z w0 av y.head) (hb : rLtr.sl Z w0 bv y.body) : Calls Try.prog 34 #[(.iface 97 (.pointer (some ad)))] w (Ret fun r w' => St Z w0 w' (Row 9 1 r (addVars [] (rulT y)).length ((addVars [] (rulT y)).map Value.string) :: L)) := by
 refine calls_of_WC (m := 10) (rs := [.tmp 2]) Try.func34 rfl rfl rfl rfl ?_
 refine Wsr ?_
 refine W1 (OpT.assign vn rfl ?_)
 refine Wns ?_
 refine W1 (OpT.alloc st vn [vn] tz68 rfl (fun b1 w2 st3 => ?_))
 refine Wns ?_
 refine W1 (OpT.makeMap Value.string (Value.int .i64) st3 (fun b4 w5 st6 => ?_))
 refine W1 (OpT.alloc st6 (.map none) [(.map none)] tz81 rfl (fun b7 w8 st9 => ?_))
 refine WL.stepN (OpT.storeS st9 0 (.map (some b4)) rfl ts81 rfl rfl rfl rfl rfl (fun w10 st11 => ?_))
 refine Wns ?_
 refine W1 (OpT.move (.iface 97 (.pointer (some ad))) rfl ?_)
 refine W1 (OpT.makeFunc [] [(pt b7 0), (pt b1 0)] mk0 (mk2 rfl rfl) ?_)
 have st12 := st11.rowNil 9 1
 have st13 : St Z w0 w10 (VS b1 b7 b4 vn [] L) := (St.selT [Row 9 1 vn 0 [], Blk b7 81 [(.map (some b4))], (Mp Value.string (Value.int .i64) b4 ([] : List (ByteArray × Int))), Blk b1 68 [vn]] [3, 1, 0, 2] rfl (by decide) st12)
 refine W1 (OpT.callS cal46 [] [] [(.iface 97 (.pointer (some ad))), (.func (.func 47) #[] #[(pt b7 0), (pt b1 0)])] rfl (ca2 rfl rfl) (walk_Rul st13 y (by simp only [List.length_nil]; omega) _ _ _ hr ha hb) ?_)
 rintro v17 w18 ⟨rfl, lv14, st19⟩
 have o15 := st19.rowOne (i := 2) rfl
 have c16 := st19.rowCel (i := 2) rfl
 refine Wns ?_
 refine W1 (OpT.loadS ⟨b1, 0, none⟩ lv14 ta68 rfl (st19.cellB (i := 0) rfl rfl) ?_)
 refine W1 (OpT.assign lv14 rfl ?_)
 refine Wnt ?_
 refine WC.ret <| retQ.one lv14 rfl ?_
 exact ⟨_, rfl, (St.selT [Blk b1 68 [lv14], Blk b7 81 [(.map (some b4))], Row 9 1 lv14 (addVars [] (rulT y)).length ((addVars [] (rulT y)).map Value.string), Mp Value.string (Value.int .i64) b4 (fm (addVars [] (rulT y)))] [2] rfl (by decide) st19)⟩

theorem RuleVars_spec {Z : Nat → Prop} {w0 w : World} {L : List Res} (st : St Z w0 w L) (y : Rul) (hl : (rulT y).length < 1073741824) (av bv : Value) (ha : rAgr.sl Z w0 av y.head) (hb : rLtr.sl Z w0 bv y.body) : Calls Try.prog 17 #[(.agg #[(.string y.pred), av, bv])] w (Ret fun r w' => St Z w0 w' (Row 9 1 r (addVars [] (rulT y)).length ((addVars [] (rulT y)).map Value.string) :: L)) := by
 refine calls_of_WC (m := 5) (rs := [.tmp 2]) Try.func17 rfl rfl rfl rfl ?_
 refine Wsr ?_
 refine W1 (OpT.box st (.agg #[(.string y.pred), av, bv]) [(.string y.pred), av, bv] rfl rfl (fun b1 w2 st3 => ?_))
 refine W1 (OpT.assign vn rfl ?_)
 refine Wns ?_
 refine W1 (OpT.makeIface (pt b1 0) ti97 rfl ?_)
 obtain ⟨Z4, hz5, hw6, hr7, st9, bk8⟩ := (st3 : St Z w0 w2 (Blk b1 31 [(.string y.pred), av, bv] :: L)).freezeB
 refine W1 (OpT.callS cal34 [] [] [(.iface 97 (pt b1 0))] rfl (ca1 rfl) (vars_Rul st9 y (by omega) _ _ _ hr7 (Rl.sl_mono ha hz5 hw6) (Rl.sl_mono hb hz5 hw6)) ?_)
 rintro v12 w13 st14
 replace st14 := bk8 _ _ st14
 have o10 := st14.rowOne (i := 1) rfl
 have c11 := st14.rowCel (i := 1) rfl
 refine W1 (OpT.assign v12 rfl ?_)
 refine Wnt ?_
 refine WC.ret <| retQ.one v12 rfl ?_
 exact ⟨_, rfl, (St.selT [Blk b1 31 [(.string y.pred), av, bv], Row 9 1 v12 (addVars [] (rulT y)).length ((addVars [] (rulT y)).map Value.string)] [1] rfl (by decide) st14)⟩

theorem AtomVars_spec {Z : Nat → Prop} {w0 w : World} {L : List Res} (st : St Z w0 w L) (y : Atm) (hl : (atmT y).length < 1073741824) (av : Value) (ha : rTrm.sl Z w0 av y.args) : Calls Try.prog 28 #[(.agg #[(.string y.pred), av])] w (Ret fun r w' => St Z w0 w' (Row 9 1 r (addVars [] (atmT y)).length ((addVars [] (atmT y)).map Value.string) :: L)) := by
 refine calls_of_WC (m := 5) (rs := [.tmp 2]) Try.func28 rfl rfl rfl rfl ?_
 refine Wsr ?_
 refine W1 (OpT.box st (.agg #[(.string y.pred), av]) [(.string y.pred), av] rfl rfl (fun b1 w2 st3 => ?_))
 refine W1 (OpT.assign vn rfl ?_)
 refine Wns ?_
 refine W1 (OpT.makeIface (pt b1 0) ti117 rfl ?_)
 obtain ⟨Z4, hz5, hw6, hr7, st9, bk8⟩ := (st3 : St Z w0 w2 (Blk b1 54 [(.string y.pred), av] :: L)).freezeB
 refine W1 (OpT.callS cal34 [] [] [(.iface 117 (pt b1 0))] rfl (ca1 rfl) (vars_Atm st9 y (by omega) _ _ hr7 (Rl.sl_mono ha hz5 hw6)) ?_)
 rintro v12 w13 st14
 replace st14 := bk8 _ _ st14
 have o10 := st14.rowOne (i := 1) rfl
 have c11 := st14.rowCel (i := 1) rfl
 refine W1 (OpT.assign v12 rfl ?_)
 refine Wnt ?_
 refine WC.ret <| retQ.one v12 rfl ?_
 exact ⟨_, rfl, (St.selT [Blk b1 54 [(.string y.pred), av], Row 9 1 v12 (addVars [] (atmT y)).length ((addVars [] (atmT y)).map Value.string)] [1] rfl (by decide) st14)⟩

theorem ExprVars_spec {Z : Nat → Prop} {w0 w : World} {L : List Res} (st : St Z w0 w L) (y : Exp) (hl : (expT y).length < 1073741824) (kv : Value) (hk : rExp.sl Z w0 kv y.kids) : Calls Try.prog 30 #[(.agg #[(.int .i8 (y.op)), (.string y.term.var), (.int .i8 (y.term.val.kind)), (.int .i64 (y.term.val.num)), (.string y.term.val.text), kv])] w (Ret fun r w' => St Z w0 w' (Row 9 1 r (addVars [] (expT y)).length ((addVars [] (expT y)).map Value.string) :: L)) := by
 refine calls_of_WC (m := 5) (rs := [.tmp 2]) Try.func30 rfl rfl rfl rfl ?_
 refine Wsr ?_
 refine W1 (OpT.box st (.agg #[(.int .i8 (y.op)), (.string y.term.var), (.int .i8 (y.term.val.kind)), (.int .i64 (y.term.val.num)), (.string y.term.val.text), kv]) [(.int .i8 (y.op)), (.string y.term.var), (.int .i8 (y.term.val.kind)), (.int .i64 (y.term.val.num)), (.string y.term.val.text), kv] rfl rfl (fun b1 w2 st3 => ?_))
 refine W1 (OpT.assign vn rfl ?_)
 refine Wns ?_
 refine W1 (OpT.makeIface (pt b1 0) ti118 rfl ?_)
 obtain ⟨Z4, hz5, hw6, hr7, st9, bk8⟩ := (st3 : St Z w0 w2 (Blk b1 59 [(.int .i8 (y.op)), (.string y.term.var), (.int .i8 (y.term.val.kind)), (.int .i64 (y.term.val.num)), (.string y.term.val.text), kv] :: L)).freezeB
 refine W1 (OpT.callS cal34 [] [] [(.iface 118 (pt b1 0))] rfl (ca1 rfl) (vars_Exp st9 y (by omega) _ _ hr7 (Rl.sl_mono hk hz5 hw6)) ?_)
 rintro v12 w13 st14
 replace st14 := bk8 _ _ st14
 have o10 := st14.rowOne (i := 1) rfl
 have c11 := st14.rowCel (i := 1) rfl
 refine W1 (OpT.assign v12 rfl ?_)
 refine Wnt ?_
 refine WC.ret <| retQ.one v12 rfl ?_
 exact ⟨_, rfl, (St.selT [Blk b1 59 [(.int .i8 (y.op)), (.string y.term.var), (.int .i8 (y.term.val.kind)), (.int .i64 (y.term.val.num)), (.string y.term.val.text), kv], Row 9 1 v12 (addVars [] (expT y)).length ((addVars [] (expT y)).map Value.string)] [1] rfl (by decide) st14)⟩

def rulB (y : Rul) : Bool := nameB y.pred && (decide (y.head.length ≤ 24) && (decide (y.body.length ≤ 16) && (y.head.all agrB && (y.body.all ltrlB && decide ((addVars [] (rulT y)).length ≤ 24)))))
theorem rulB_head {y : Rul} {i : Nat} {x : Agr} (hx : y.head[i]? = some x) (h : agrB x = false) : rulB y = false := by
  have : y.head.all agrB = false := List.all_eq_false.2 ⟨x, List.mem_of_getElem? hx, by rw [h]; simp⟩
  simp [rulB, this]
theorem rulB_body {y : Rul} {i : Nat} {x : Ltr} (hx : y.body[i]? = some x) (h : ltrlB x = false) : rulB y = false := by
  have : y.body.all ltrlB = false := List.all_eq_false.2 ⟨x, List.mem_of_getElem? hx, by rw [h]; simp⟩
  simp [rulB, this]
theorem all_get {α : Type} (p : α → Bool) (xs : List α) (h : ∀ j x, j < xs.length → xs[j]? = some x → p x = true) : xs.all p = true := by
  rw [List.all_eq_true]
  intro x hx
  obtain ⟨j, hj, rfl⟩ := List.getElem_of_mem hx
  exact h j _ hj (List.getElem?_eq_getElem hj)
def Hid2 (p : Prop) : Prop := p
theorem CheckRule_spec {Z : Nat → Prop} {w0 w : World} {L : List Res} (st : St Z w0 w L) (y : Rul) (hl : (rulT y).length < 1073741824) (av bv : Value) (ha : rAgr.sl Z w0 av y.head) (hb : rLtr.sl Z w0 bv y.body) : Calls Try.prog 26 #[(.agg #[(.string y.pred), av, bv])] w (Ret fun r w' => r = .int .i64 (errn (rulB y) 40) ∧ St Z w0 w' L) := by
 have hal := Rl.sl_le ha
 have hbl := Rl.sl_le hb
 refine calls_of_WC (m := 53) (rs := [.tmp 2]) Try.func26 rfl rfl rfl rfl ?_
 refine Wsr ?_
 refine W1 (OpT.box st (.agg #[(.string y.pred), av, bv]) [(.string y.pred), av, bv] rfl rfl (fun b1 w2 st3 => ?_))
 refine W1 (OpT.assign (ii 0) rfl ?_)
 refine Wnt ?_
 refine WC.seq ?_
 refine Wsr ?_
 refine W1 (OpT.field 0 ⟨b1, 0, none⟩ ⟨b1, 0, none⟩ tf31_0 rfl rfl ?_)
 refine W1 (OpT.loadS ⟨b1, 0, none⟩ (.string y.pred) ta9 rfl (st3.cellB (i := 0) rfl rfl) ?_)
 refine W1 (OpT.callS cal42 [] [] [(.string y.pred)] rfl (ca1 rfl) (name_spec st3 y.pred) ?_)
 rintro v4 w5 ⟨rfl, st6⟩
 refine W1 (OpT.not (nameB y.pred) rfl ?_)
 refine W1 (OpT.move (.bool (!(nameB y.pred))) rfl ?_)
 by_cases h7 : (!(nameB y.pred)) = true
 ·refine WL.pass (dj := 12) (c := true) rfl rfl rfl (congrArg Value.bool h7) rfl ?_
  refine WL.pass (dj := 12) (c := true) rfl rfl rfl (congrArg Value.bool h7) rfl ?_
  refine WL.pass (dj := 12) (c := true) rfl rfl rfl (congrArg Value.bool h7) rfl ?_
  refine WL.pass (dj := 12) (c := true) rfl rfl rfl (congrArg Value.bool h7) rfl ?_
  refine W1 (OpT.pickT (.bool true) (congrArg Value.bool h7) rfl ?_)
  refine W1 (OpT.move (.bool true) rfl ?_)
  refine WL.pass (dj := 18) (c := true) rfl rfl rfl rfl rfl ?_
  refine WL.pass (dj := 18) (c := true) rfl rfl rfl rfl rfl ?_
  refine WL.pass (dj := 18) (c := true) rfl rfl rfl rfl rfl ?_
  refine WL.pass (dj := 18) (c := true) rfl rfl rfl rfl rfl ?_
  refine W1 (OpT.pickT (.bool true) rfl rfl ?_)
  refine Wnt ?_
  refine WC.condT rfl ?_
  refine Wsr ?_
  refine W1 (OpT.assign (ii 40) rfl ?_)
  refine Wnt ?_
  refine WC.ret <| thenQ_r <| retQ.one (ii 40) rfl ?_
  exact ⟨_, rfl, by rw [show rulB y = false from Bool.eq_false_iff.2 (fun hq => by simp only [rulB, Bool.and_eq_true, decide_eq_true_eq] at hq; obtain ⟨q1, q2, q3, q4, q5, q6⟩ := hq; first | omega | simp_all)]; rfl, (St.selT [Blk b1 31 [(.string y.pred), av, bv]] [] rfl (by decide) st6)⟩
 have h7 := Bool.eq_false_iff.2 h7
 refine W2 (dj := 12) (congrArg Value.bool h7) (OpT.field 1 ⟨b1, 0, none⟩ ⟨b1, 1, none⟩ tf31_1 rfl rfl ?_)
 refine W2 (dj := 12) (congrArg Value.bool h7) (OpT.loadS ⟨b1, 1, none⟩ av ta28 rfl (st6.cellB (i := 0) rfl rfl) ?_)
 refine W2 (dj := 12) (congrArg Value.bool h7) (OpT.lenR rfl tu28 ha rfl ?_)
 refine W2 (dj := 12) (congrArg Value.bool h7) (OpT.igt .i64 (((y.head.length : Nat) : Int)) (24) rfl rfl ?_)
 refine W1 (OpT.pickF (.bool (decide (24 < ((y.head.length : Nat) : Int)))) (congrArg Value.bool h7) rfl ?_)
 refine W1 (OpT.move (.bool (decide (24 < ((y.head.length : Nat) : Int)))) rfl ?_)
 by_cases h8 : 24 < ((y.head.length : Nat) : Int)
 ·refine WL.pass (dj := 18) (c := true) rfl rfl rfl (bT h8) rfl ?_
  refine WL.pass (dj := 18) (c := true) rfl rfl rfl (bT h8) rfl ?_
  refine WL.pass (dj := 18) (c := true) rfl rfl rfl (bT h8) rfl ?_
  refine WL.pass (dj := 18) (c := true) rfl rfl rfl (bT h8) rfl ?_
  refine W1 (OpT.pickT (.bool true) (bT h8) rfl ?_)
  refine Wnt ?_
  refine WC.condT rfl ?_
  refine Wsr ?_
  refine W1 (OpT.assign (ii 40) rfl ?_)
  refine Wnt ?_
  refine WC.ret <| thenQ_r <| retQ.one (ii 40) rfl ?_
  exact ⟨_, rfl, by rw [show rulB y = false from Bool.eq_false_iff.2 (fun hq => by simp only [rulB, Bool.and_eq_true, decide_eq_true_eq] at hq; obtain ⟨q1, q2, q3, q4, q5, q6⟩ := hq; first | omega | simp_all)]; rfl, (St.selT [Blk b1 31 [(.string y.pred), av, bv]] [] rfl (by decide) st6)⟩
 refine W2 (dj := 18) (bF h8) (OpT.field 2 ⟨b1, 0, none⟩ ⟨b1, 2, none⟩ tf31_2 rfl rfl ?_)
 refine W2 (dj := 18) (bF h8) (OpT.loadS ⟨b1, 2, none⟩ bv ta29 rfl (st6.cellB (i := 0) rfl rfl) ?_)
 refine W2 (dj := 18) (bF h8) (OpT.lenR rfl tu29 hb rfl ?_)
 refine W2 (dj := 18) (bF h8) (OpT.igt .i64 (((y.body.length : Nat) : Int)) (16) rfl rfl ?_)
 refine W1 (OpT.pickF (.bool (decide (16 < ((y.body.length : Nat) : Int)))) (bF h8) rfl ?_)
 refine Wnt ?_
 refine WC.condP (16 < ((y.body.length : Nat) : Int)) rfl (fun h9 => ?_) (fun h9 => ?_)
 ·refine WC.seq ?_
  refine WC.region ?_
  refine W1 (OpT.assign (ii 40) rfl ?_)
  refine Wnt ?_
  refine WC.ret <| thenQ_r <| retQ.one (ii 40) rfl ?_
  exact ⟨_, rfl, by rw [show rulB y = false from Bool.eq_false_iff.2 (fun hq => by simp only [rulB, Bool.and_eq_true, decide_eq_true_eq] at hq; obtain ⟨q1, q2, q3, q4, q5, q6⟩ := hq; first | omega | simp_all)]; rfl, (St.selT [Blk b1 31 [(.string y.pred), av, bv]] [] rfl (by decide) st6)⟩
 refine WC.skip ?_
 refine thenQ_n ?_
 refine WC.seq ?_
 refine Wsr ?_
 refine W1 (OpT.field 1 ⟨b1, 0, none⟩ ⟨b1, 1, none⟩ tf31_1 rfl rfl ?_)
 refine W1 (OpT.loadS ⟨b1, 1, none⟩ av ta28 rfl (st6.cellB (i := 0) rfl rfl) ?_)
 refine W1 (OpT.lenR rfl tu28 ha rfl ?_)
 refine W1 (OpT.move (ii 0) rfl ?_)
 refine Wnt ?_
 refine WC.block ?_
 refine WC.loop (fun m ρ wz => ∃ (i : Nat), m = y.head.length - i ∧ i ≤ y.head.length ∧ Hid (∀ (j : Nat) x, j < i → y.head[j]? = some x → agrB x = true) ∧ ρ 27 = (ni i) ∧ ρ 1 = (pt b1 0) ∧ ρ 25 = av ∧ ρ 26 = (ni (y.head.length)) ∧ St Z w0 wz (Blk b1 31 [(.string y.pred), av, bv] :: L)) _ ⟨0, rfl, by omega, fun j x hj => absurd hj (Nat.not_lt_zero _), rfl, rfl, rfl, rfl, st6⟩ ?_
 rintro m10 ρ11 w12 ⟨i, hm19, hp14, HPi, hs15, hs16, hs17, hs18, st13⟩
 refine Wsr ?_
 refine W1 (OpT.ilt .i64 (((i : Nat) : Int)) (((y.head.length : Nat) : Int)) hs15 hs18 ?_)
 refine Wnt ?_
 refine WC.seq ?_
 refine WC.condP (((i : Nat) : Int) < ((y.head.length : Nat) : Int)) rfl (fun h20 => ?_) (fun h20 => ?_)
 ·refine WC.skip ?_
  refine thenQ_n ?_
  refine WC.seq ?_
  refine WC.block ?_
  refine Wsr ?_
  obtain ⟨x21, hx21⟩ : ∃ x, (y.head)[i]? = some x := ⟨_, List.getElem?_eq_getElem (by omega)⟩
  refine W1 (OpT.idxX tu28 ts40 ha hs17 .i64 (i) hs15 hx21 (fun ad22 cs23 hr24 hR25 => ?_))
  have hR25c := hR25
  obtain rfl := hR25
  refine W1 (OpT.loadA ad22 5 [(.int .i8 (x21.agg)), (.string x21.term.var), (.int .i8 (x21.term.val.kind)), (.int .i64 (x21.term.val.num)), (.string x21.term.val.text)] ta40 ts40 rfl ((hr24.at st13).part 0 5) rfl ?_)
  refine W1 (OpT.alloc st13 (.agg #[(.int .i8 (0)), ve, (.int .i8 (0)), (ii 0), ve]) [(.int .i8 (0)), ve, (.int .i8 (0)), (ii 0), ve] tz40 rfl (fun b26 w27 st28 => ?_))
  refine WL.stepN (OpT.storeA st28 0 5 [(.int .i8 (x21.agg)), (.string x21.term.var), (.int .i8 (x21.term.val.kind)), (.int .i64 (x21.term.val.num)), (.string x21.term.val.text)] rfl ts40 rfl rfl rfl rfl rfl (fun w29 st30 => ?_))
  refine Wns ?_
  refine W1 (OpT.loadA ⟨b26, 0, none⟩ 5 [(.int .i8 (x21.agg)), (.string x21.term.var), (.int .i8 (x21.term.val.kind)), (.int .i64 (x21.term.val.num)), (.string x21.term.val.text)] ta40 ts40 rfl ((st30.rowB (i := 0) rfl).part 0 5) rfl ?_)
  refine W1 (OpT.callS cal43 [] [] [(.agg #[(.int .i8 (x21.agg)), (.string x21.term.var), (.int .i8 (x21.term.val.kind)), (.int .i64 (x21.term.val.num)), (.string x21.term.val.text)])] rfl (ca1 rfl) (argument_spec st30 x21) ?_)
  rintro v31 w32 ⟨rfl, st33⟩
  refine W1 (OpT.not (agrB x21) rfl ?_)
  refine Wnt ?_
  refine WC.cond ((!(agrB x21))) rfl (fun h34 => ?_) (fun h34 => ?_)
  ·refine WC.seq ?_
   refine WC.region ?_
   refine W1 (OpT.assign (ii 40) rfl ?_)
   refine Wnt ?_
   refine WC.ret <| blkQ_r <| thenQ_r <| loopQ_r <| blkQ_r <| thenQ_r <| retQ.one (ii 40) rfl ?_
   exact ⟨_, rfl, by rw [rulB_head hx21 (by simp_all)]; rfl, (St.selT [Blk b26 40 [(.int .i8 (x21.agg)), (.string x21.term.var), (.int .i8 (x21.term.val.kind)), (.int .i64 (x21.term.val.num)), (.string x21.term.val.text)], Blk b1 31 [(.string y.pred), av, bv]] [] rfl (by decide) st33)⟩
  refine WC.skip ?_
  refine blkQ_n ?_
  refine thenQ_n ?_
  refine WC.region ?_
  refine W1 (OpT.iadd .i64 (((i : Nat) : Int)) (1) (((i + 1 : Nat) : Int)) hs15 rfl (wadd (a := i) (b := 1) (by omega)) ?_)
  refine W1 (OpT.move (ni (i + 1)) rfl ?_)
  refine WL.nil ?_
  have st35 : St Z w0 w32 (Blk b1 31 [(.string y.pred), av, bv] :: L) := St.selT [Blk b26 40 [(.int .i8 (x21.agg)), (.string x21.term.var), (.int .i8 (x21.term.val.kind)), (.int .i64 (x21.term.val.num)), (.string x21.term.val.text)], Blk b1 31 [(.string y.pred), av, bv]] [1] rfl (by decide) st33
  exact loopQ_n _ (by omega) ⟨i + 1, rfl, by omega, fun j x hj hx => by
        rcases Nat.lt_succ_iff_lt_or_eq.1 hj with hj | rfl
        · exact HPi.out j x hj hx
        · rw [hx21] at hx; cases hx; simp_all, rfl, hs16, hs17, hs18, st35⟩
 refine WC.exit ?_
 refine thenQ_x ?_
 refine loopQ_x ?_
 refine blkQ_hit ?_
 refine thenQ_n ?_
 refine WC.seq ?_
 refine Wsr ?_
 refine W1 (OpT.field 2 ⟨b1, 0, none⟩ ⟨b1, 2, none⟩ tf31_2 hs16 rfl ?_)
 refine W1 (OpT.loadS ⟨b1, 2, none⟩ bv ta29 rfl (st13.cellB (i := 0) rfl rfl) ?_)
 refine W1 (OpT.lenR rfl tu29 hb rfl ?_)
 refine W1 (OpT.move (ii 0) rfl ?_)
 refine Wnt ?_
 refine WC.block ?_
 refine WC.loop (fun m ρ wz => ∃ (k : Nat), m = y.body.length - k ∧ k ≤ y.body.length ∧ Hid (∀ (j : Nat) x, j < k → y.body[j]? = some x → ltrlB x = true) ∧ ρ 38 = (ni k) ∧ ρ 1 = (pt b1 0) ∧ ρ 36 = bv ∧ ρ 37 = (ni (y.body.length)) ∧ St Z w0 wz (Blk b1 31 [(.string y.pred), av, bv] :: L)) _ ⟨0, rfl, by omega, fun j x hj => absurd hj (Nat.not_lt_zero _), rfl, hs16, rfl, rfl, st13⟩ ?_
 rintro m36 ρ37 w38 ⟨k, hm45, hp40, HPk, hs41, hs42, hs43, hs44, st39⟩
 refine Wsr ?_
 refine W1 (OpT.ilt .i64 (((k : Nat) : Int)) (((y.body.length : Nat) : Int)) hs41 hs44 ?_)
 refine Wnt ?_
 refine WC.seq ?_
 refine WC.condP (((k : Nat) : Int) < ((y.body.length : Nat) : Int)) rfl (fun h46 => ?_) (fun h46 => ?_)
 ·refine WC.skip ?_
  refine thenQ_n ?_
  refine WC.seq ?_
  refine WC.block ?_
  refine Wsr ?_
  obtain ⟨x47, hx47⟩ : ∃ x, (y.body)[k]? = some x := ⟨_, List.getElem?_eq_getElem (by omega)⟩
  refine W1 (OpT.idxX tu29 ts61 hb hs43 .i64 (k) hs41 hx47 (fun ad48 cs49 hr50 hR51 => ?_))
  have hR51c := hR51
  obtain ⟨av52, lk53, rk54, rfl, ha55, hl56, hr57⟩ := hR51
  refine W1 (OpT.loadA ad48 16 [(.int .i8 (x47.kind)), (.string x47.atom.pred), av52, (.int .i8 (x47.rel)), (.int .i8 (x47.left.op)), (.string x47.left.term.var), (.int .i8 (x47.left.term.val.kind)), (.int .i64 (x47.left.term.val.num)), (.string x47.left.term.val.text), lk53, (.int .i8 (x47.right.op)), (.string x47.right.term.var), (.int .i8 (x47.right.term.val.kind)), (.int .i64 (x47.right.term.val.num)), (.string x47.right.term.val.text), rk54] ta61 ts61 rfl ((hr50.at st39).part 0 16) rfl ?_)
  refine W1 (OpT.alloc st39 (.agg #[(.int .i8 (0)), ve, vn, (.int .i8 (0)), (.int .i8 (0)), ve, (.int .i8 (0)), (ii 0), ve, vn, (.int .i8 (0)), ve, (.int .i8 (0)), (ii 0), ve, vn]) [(.int .i8 (0)), ve, vn, (.int .i8 (0)), (.int .i8 (0)), ve, (.int .i8 (0)), (ii 0), ve, vn, (.int .i8 (0)), ve, (.int .i8 (0)), (ii 0), ve, vn] tz61 rfl (fun b58 w59 st60 => ?_))
  refine WL.stepN (OpT.storeA st60 0 16 [(.int .i8 (x47.kind)), (.string x47.atom.pred), av52, (.int .i8 (x47.rel)), (.int .i8 (x47.left.op)), (.string x47.left.term.var), (.int .i8 (x47.left.term.val.kind)), (.int .i64 (x47.left.term.val.num)), (.string x47.left.term.val.text), lk53, (.int .i8 (x47.right.op)), (.string x47.right.term.var), (.int .i8 (x47.right.term.val.kind)), (.int .i64 (x47.right.term.val.num)), (.string x47.right.term.val.text), rk54] rfl ts61 rfl rfl (aC rfl (aC rfl (aC (Rl.sl_one ha55) (aC rfl (aC rfl (aC rfl (aC rfl (aC rfl (aC rfl (aC (Rl.sl_one hl56) (aC rfl (aC rfl (aC rfl (aC rfl (aC rfl (aC (Rl.sl_one hr57) aN)))))))))))))))) rfl rfl (fun w61 st62 => ?_))
  refine Wns ?_
  refine W1 (OpT.loadA ⟨b58, 0, none⟩ 16 [(.int .i8 (x47.kind)), (.string x47.atom.pred), av52, (.int .i8 (x47.rel)), (.int .i8 (x47.left.op)), (.string x47.left.term.var), (.int .i8 (x47.left.term.val.kind)), (.int .i64 (x47.left.term.val.num)), (.string x47.left.term.val.text), lk53, (.int .i8 (x47.right.op)), (.string x47.right.term.var), (.int .i8 (x47.right.term.val.kind)), (.int .i64 (x47.right.term.val.num)), (.string x47.right.term.val.text), rk54] ta61 ts61 rfl ((st62.rowB (i := 0) rfl).part 0 16) rfl ?_)
  refine W1 (OpT.callS cal44 [] [] [(.agg #[(.int .i8 (x47.kind)), (.string x47.atom.pred), av52, (.int .i8 (x47.rel)), (.int .i8 (x47.left.op)), (.string x47.left.term.var), (.int .i8 (x47.left.term.val.kind)), (.int .i64 (x47.left.term.val.num)), (.string x47.left.term.val.text), lk53, (.int .i8 (x47.right.op)), (.string x47.right.term.var), (.int .i8 (x47.right.term.val.kind)), (.int .i64 (x47.right.term.val.num)), (.string x47.right.term.val.text), rk54])] rfl (ca1 rfl) (CheckLiteral_spec st62 x47 _ _ _ ha55 hl56 hr57) ?_)
  rintro v63 w64 ⟨rfl, st65⟩
  refine W1 (OpT.assign (.int .i64 (errn (ltrlB x47) 40)) rfl ?_)
  refine Wns ?_
  refine W1 (OpT.move (.int .i64 (errn (ltrlB x47) 40)) rfl ?_)
  refine W1 (OpT.ine .i64 (errn (ltrlB x47) 40) (0) rfl rfl ?_)
  refine Wnt ?_
  refine WC.condP ((errn (ltrlB x47) 40) ≠ 0) rfl (fun h66 => ?_) (fun h66 => ?_)
  ·have h66b := errn_ne _ h66
   refine Wsr ?_
   refine W1 (OpT.move (.int .i64 (errn (ltrlB x47) 40)) rfl ?_)
   refine W1 (OpT.assign (.int .i64 (errn (ltrlB x47) 40)) rfl ?_)
   refine Wnt ?_
   refine WC.ret <| blkQ_r <| thenQ_r <| loopQ_r <| blkQ_r <| thenQ_r <| retQ.one (.int .i64 (errn (ltrlB x47) 40)) rfl ?_
   exact ⟨_, rfl, by rw [rulB_body hx47 (by simp_all), show ltrlB x47 = false from by simp_all], (St.selT [Blk b58 61 [(.int .i8 (x47.kind)), (.string x47.atom.pred), av52, (.int .i8 (x47.rel)), (.int .i8 (x47.left.op)), (.string x47.left.term.var), (.int .i8 (x47.left.term.val.kind)), (.int .i64 (x47.left.term.val.num)), (.string x47.left.term.val.text), lk53, (.int .i8 (x47.right.op)), (.string x47.right.term.var), (.int .i8 (x47.right.term.val.kind)), (.int .i64 (x47.right.term.val.num)), (.string x47.right.term.val.text), rk54], Blk b1 31 [(.string y.pred), av, bv]] [] rfl (by decide) st65)⟩
  have h66b := errn_eq _ h66
  refine WC.skip ?_
  refine blkQ_n ?_
  refine thenQ_n ?_
  refine WC.region ?_
  refine W1 (OpT.iadd .i64 (((k : Nat) : Int)) (1) (((k + 1 : Nat) : Int)) hs41 rfl (wadd (a := k) (b := 1) (by omega)) ?_)
  refine W1 (OpT.move (ni (k + 1)) rfl ?_)
  refine WL.nil ?_
  have st67 : St Z w0 w64 (Blk b1 31 [(.string y.pred), av, bv] :: L) := St.selT [Blk b58 61 [(.int .i8 (x47.kind)), (.string x47.atom.pred), av52, (.int .i8 (x47.rel)), (.int .i8 (x47.left.op)), (.string x47.left.term.var), (.int .i8 (x47.left.term.val.kind)), (.int .i64 (x47.left.term.val.num)), (.string x47.left.term.val.text), lk53, (.int .i8 (x47.right.op)), (.string x47.right.term.var), (.int .i8 (x47.right.term.val.kind)), (.int .i64 (x47.right.term.val.num)), (.string x47.right.term.val.text), rk54], Blk b1 31 [(.string y.pred), av, bv]] [1] rfl (by decide) st65
  exact loopQ_n _ (by omega) ⟨k + 1, rfl, by omega, fun j x hj hx => by
        rcases Nat.lt_succ_iff_lt_or_eq.1 hj with hj | rfl
        · exact HPk.out j x hj hx
        · rw [hx47] at hx; cases hx; simp_all, rfl, hs42, hs43, hs44, st67⟩
 refine WC.exit ?_
 refine thenQ_x ?_
 refine loopQ_x ?_
 refine blkQ_hit ?_
 refine thenQ_n ?_
 refine Wsr ?_
 refine W1 (OpT.loadA ⟨b1, 0, none⟩ 3 [(.string y.pred), av, bv] ta31 ts31 hs42 ((st39.rowB (i := 0) rfl).part 0 3) rfl ?_)
 refine W1 (OpT.callS cal17 [] [] [(.agg #[(.string y.pred), av, bv])] rfl (ca1 rfl) (RuleVars_spec st39 y (by omega) _ _ ha hb) ?_)
 rintro v70 w71 st72
 have o68 := st72.rowOne (i := 0) rfl
 have c69 := st72.rowCel (i := 0) rfl
 refine W1 (OpT.lenRow st72 0 rfl rfl tu68 rfl ?_)
 refine W1 (OpT.ile .i64 ((((addVars [] (rulT y)).length : Nat) : Int)) (24) rfl rfl ?_)
 refine W1 (OpT.callS cal45 [] [] [(.bool (decide ((((addVars [] (rulT y)).length : Nat) : Int) ≤ 24)))] rfl (ca1 rfl) (code_spec st72 (decide ((((addVars [] (rulT y)).length : Nat) : Int) ≤ 24))) ?_)
 rintro v73 w74 ⟨rfl, st75⟩
 refine W1 (OpT.assign (.int .i64 (errn (decide ((((addVars [] (rulT y)).length : Nat) : Int) ≤ 24)) 40)) rfl ?_)
 refine Wnt ?_
 refine WC.ret <| retQ.one (.int .i64 (errn (decide ((((addVars [] (rulT y)).length : Nat) : Int) ≤ 24)) 40)) rfl ?_
 exact ⟨_, rfl, by rw [show rulB y = decide (((addVars [] (rulT y)).length : Int) ≤ 24) from by have e1 : nameB y.pred = true := (by first | assumption | (have q : (!nameB y.pred) = false := ‹_›; simpa using q)); have e3 : decide (y.head.length ≤ 24) = true := decide_eq_true (by omega); have e4 : decide (y.body.length ≤ 16) = true := decide_eq_true (by omega); rw [rulB, e1, e3, e4, all_get agrB _ (fun j x hj hx => HPi.out j x (by omega) hx), all_get ltrlB _ (fun j x hj hx => HPk.out j x (by omega) hx)]; simp only [Bool.true_and]; rw [Bool.eq_iff_iff]; simp only [decide_eq_true_eq]; omega], (St.selT [Row 9 1 v70 (addVars [] (rulT y)).length ((addVars [] (rulT y)).map Value.string), Blk b1 31 [(.string y.pred), av, bv]] [] rfl (by decide) st75)⟩

end Go.Ped
