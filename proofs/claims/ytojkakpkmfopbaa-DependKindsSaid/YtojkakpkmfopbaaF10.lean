/- What a check has found: all of them, a lone variable, an equation taken. -/
import Derived.Test.YtojkakpkmfopbaaF9
set_option linter.unusedVariables false
set_option maxRecDepth 20000
namespace Go.Ped
open Go Go.Eng Go.RowKit Go.Proofs

theorem tf92_0 : fieldB Try.prog 92 0 = some 0 := by kernel_rfl
theorem tf92_3 : fieldB Try.prog 92 3 = some 3 := by kernel_rfl
theorem cal16 : CallOk Try.prog 16 := ⟨⟨Try.f16, Try.func16, rfl, by decide⟩⟩
theorem cal27 : CallOk Try.prog 27 := ⟨⟨Try.f27, Try.func27, rfl, by decide⟩⟩
theorem tf92_1 : fieldB Try.prog 92 1 = some 1 := by kernel_rfl
theorem tf92_2 : fieldB Try.prog 92 2 = some 2 := by kernel_rfl
theorem subB_false {xs l : List ByteArray} {i : Nat} {x : ByteArray} (hx : xs[i]? = some x) (h : ¬ x ∈ l) : subB xs l = false :=
  List.all_eq_false.2 ⟨x, List.mem_of_getElem? hx, by simpa using h⟩
def loneF (e : Exp) : ByteArray := if e.op ≠ 0 then ⟨#[]⟩ else if 0 < (e.kids.length : Int) then ⟨#[]⟩ else if e.term.var = ⟨#[95]⟩ then ⟨#[]⟩ else e.term.var
structure Eqn where
  l : ByteArray
  r : ByteArray
  lv : List ByteArray
  rv : List ByteArray
def rEqn : Rl Eqn where
  sz := 4
  R Z w cs x := ∃ a b, cs = [.string x.l, .string x.r, a, b] ∧ rStr.sl Z w a x.lv ∧ rStr.sl Z w b x.rv
  len := by rintro _ _ _ _ ⟨_, _, rfl, _⟩; rfl
  mono := by rintro _ _ _ _ _ _ ⟨a, b, rfl, h1, h2⟩ hz hw; exact ⟨a, b, rfl, Rl.sl_mono h1 hz hw, Rl.sl_mono h2 hz hw⟩
def takeB (q : Eqn) (l : List ByteArray) : Bool := (decide (q.l ≠ ⟨#[]⟩) && (!decide (q.l ∈ l) && subB q.rv l)) || (decide (q.r ≠ ⟨#[]⟩) && (!decide (q.r ∈ l) && subB q.lv l))
def takeL (q : Eqn) (l : List ByteArray) : List ByteArray := if decide (q.l ≠ ⟨#[]⟩) && (!decide (q.l ∈ l) && subB q.rv l) then addNews l [q.l] else if decide (q.r ≠ ⟨#[]⟩) && (!decide (q.r ∈ l) && subB q.lv l) then addNews l [q.r] else l
theorem all_spec {Z : Nat → Prop} {w0 w : World} {L : List Res} {fb mb : Nat} {lv : Value} {l : List ByteArray} (st : St Z w0 w (FS fb mb lv l L)) (v : Value) (xs : List ByteArray) (hv : rStr.sl Z w0 v xs) : Calls Try.prog 16 #[(pt fb 0), v] w (Ret fun r w' => r = .bool (subB xs l) ∧ St Z w0 w' (FS fb mb lv l L)) := by
 have olv := st.rowOne (i := 1) rfl
 have clv := st.rowCel (i := 1) rfl
 have hal := Rl.sl_le hv
 refine calls_of_WC (m := 18) (rs := [.tmp 4]) Try.func16 rfl rfl rfl rfl ?_
 refine Wsr ?_
 refine W1 (OpT.assign (.bool false) rfl ?_)
 refine Wnt ?_
 refine WC.seq ?_
 refine Wsr ?_
 refine W1 (OpT.move v rfl ?_)
 refine W1 (OpT.lenR rfl tu68 hv rfl ?_)
 refine W1 (OpT.move (ii 0) rfl ?_)
 refine Wnt ?_
 refine WC.block ?_
 refine WC.loop (fun m ρ wz => ∃ (i : Nat), m = xs.length - i ∧ i ≤ xs.length ∧ Hid (∀ (j : Nat) x, j < i → xs[j]? = some x → decide (x ∈ l) = true) ∧ ρ 9 = (ni i) ∧ ρ 0 = (pt fb 0) ∧ ρ 7 = v ∧ ρ 8 = (ni (xs.length)) ∧ St Z w0 wz (Blk fb 83 [lv, (.map (some mb))] :: Row 9 1 lv l.length (l.map Value.string) :: Mp Value.string (Value.int .i64) mb (fm l) :: L)) _ ⟨0, rfl, by omega, fun j x hj => absurd hj (Nat.not_lt_zero _), rfl, rfl, rfl, rfl, st⟩ ?_
 rintro m1 ρ2 w3 ⟨i, hm10, hp5, HP, hs6, hs7, hs8, hs9, st4⟩
 refine Wsr ?_
 refine W1 (OpT.ilt .i64 (((i : Nat) : Int)) (((xs.length : Nat) : Int)) hs6 hs9 ?_)
 refine Wnt ?_
 refine WC.seq ?_
 refine WC.condP (((i : Nat) : Int) < ((xs.length : Nat) : Int)) rfl (fun h11 => ?_) (fun h11 => ?_)
 ·refine WC.skip ?_
  refine thenQ_n ?_
  refine WC.seq ?_
  refine WC.block ?_
  refine Wsr ?_
  obtain ⟨x12, hx12⟩ : ∃ x, (xs)[i]? = some x := ⟨_, List.getElem?_eq_getElem (by omega)⟩
  refine W1 (OpT.idxX tu68 ts9 hv hs8 .i64 (i) hs6 hx12 (fun ad13 cs14 hr15 hR16 => ?_))
  have hR16c := hR16
  obtain rfl := hR16
  refine W1 (OpT.loadS ad13 (.string x12) ta9 rfl (hr15.cell st4 (j := 0) rfl) ?_)
  refine W1 (OpT.assign (.string x12) rfl ?_)
  refine Wns ?_
  refine W1 (OpT.move (pt fb 0) hs7 ?_)
  refine W1 (OpT.move (.string x12) rfl ?_)
  refine W1 (OpT.callS cal33 [] [] [(pt fb 0), (.string x12)] rfl (ca2 rfl rfl) (has_spec st4 x12) ?_)
  rintro v17 w18 ⟨rfl, st19⟩
  refine W1 (OpT.notP (x12 ∈ l) rfl ?_)
  refine Wnt ?_
  refine WC.condP (¬ (x12 ∈ l)) rfl (fun h20 => ?_) (fun h20 => ?_)
  ·refine WC.seq ?_
   refine WC.region ?_
   refine W1 (OpT.assign (.bool false) rfl ?_)
   refine Wnt ?_
   refine WC.ret <| blkQ_r <| thenQ_r <| loopQ_r <| blkQ_r <| thenQ_r <| retQ.one (.bool false) rfl ?_
   exact ⟨_, rfl, by rw [subB_false hx12 (by simp_all)], st19⟩
  refine WC.skip ?_
  refine blkQ_n ?_
  refine thenQ_n ?_
  refine WC.region ?_
  refine W1 (OpT.iadd .i64 (((i : Nat) : Int)) (1) (((i + 1 : Nat) : Int)) hs6 rfl (wadd (a := i) (b := 1) (by omega)) ?_)
  refine W1 (OpT.move (ni (i + 1)) rfl ?_)
  refine WL.nil ?_
  exact loopQ_n _ (by omega) ⟨i + 1, rfl, by omega, fun j x hj hx => by
        rcases Nat.lt_succ_iff_lt_or_eq.1 hj with hj | rfl
        · exact HP.out j x hj hx
        · rw [hx12] at hx; cases hx; simp_all, rfl, hs7, hs8, hs9, st19⟩
 refine WC.exit ?_
 refine thenQ_x ?_
 refine loopQ_x ?_
 refine blkQ_hit ?_
 refine thenQ_n ?_
 refine Wsr ?_
 refine W1 (OpT.assign (.bool true) rfl ?_)
 refine Wnt ?_
 refine WC.ret <| retQ.one (.bool true) rfl ?_
 exact ⟨_, rfl, by rw [subB, all_get _ _ (fun j x hj hx => HP.out j x (by omega) hx)], st4⟩

theorem lone_spec {Z : Nat → Prop} {w0 w : World} {L : List Res} (st : St Z w0 w L) (e : Exp) (kv : Value) (hk : rExp.sl Z w0 kv e.kids) : Calls Try.prog 29 #[(.agg #[(.int .i8 (e.op)), (.string e.term.var), (.int .i8 (e.term.val.kind)), (.int .i64 (e.term.val.num)), (.string e.term.val.text), kv])] w (Ret fun r w' => r = .string (loneF e) ∧ St Z w0 w' L) := by
 refine calls_of_WC (m := 21) (rs := [.tmp 2]) Try.func29 rfl rfl rfl rfl ?_
 refine Wsr ?_
 refine W1 (OpT.box st (.agg #[(.int .i8 (e.op)), (.string e.term.var), (.int .i8 (e.term.val.kind)), (.int .i64 (e.term.val.num)), (.string e.term.val.text), kv]) [(.int .i8 (e.op)), (.string e.term.var), (.int .i8 (e.term.val.kind)), (.int .i64 (e.term.val.num)), (.string e.term.val.text), kv] rfl rfl (fun b1 w2 st3 => ?_))
 refine W1 (OpT.assign ve rfl ?_)
 refine Wnt ?_
 refine WC.seq ?_
 refine Wsr ?_
 refine W1 (OpT.field 0 ⟨b1, 0, none⟩ ⟨b1, 0, none⟩ tf59_0 rfl rfl ?_)
 refine W1 (OpT.loadS ⟨b1, 0, none⟩ (.int .i8 (e.op)) ta56 rfl (st3.cellB (i := 0) rfl rfl) ?_)
 refine W1 (OpT.ine .i8 (e.op) (0) rfl rfl ?_)
 refine W1 (OpT.move (.bool (decide (e.op ≠ 0))) rfl ?_)
 by_cases h4 : e.op ≠ 0
 ·refine WL.pass (dj := 6) (c := true) rfl rfl rfl (bT h4) rfl ?_
  refine WL.pass (dj := 6) (c := true) rfl rfl rfl (bT h4) rfl ?_
  refine WL.pass (dj := 6) (c := true) rfl rfl rfl (bT h4) rfl ?_
  refine WL.pass (dj := 6) (c := true) rfl rfl rfl (bT h4) rfl ?_
  refine W1 (OpT.pickT (.bool true) (bT h4) rfl ?_)
  refine W1 (OpT.move (.bool true) rfl ?_)
  refine WL.pass (dj := 12) (c := true) rfl rfl rfl rfl rfl ?_
  refine WL.pass (dj := 12) (c := true) rfl rfl rfl rfl rfl ?_
  refine WL.pass (dj := 12) (c := true) rfl rfl rfl rfl rfl ?_
  refine WL.pass (dj := 12) (c := true) rfl rfl rfl rfl rfl ?_
  refine W1 (OpT.pickT (.bool true) rfl rfl ?_)
  refine Wnt ?_
  refine WC.condT rfl ?_
  refine Wsr ?_
  refine W1 (OpT.assign ve rfl ?_)
  refine Wnt ?_
  refine WC.ret <| thenQ_r <| retQ.one ve rfl ?_
  exact ⟨_, rfl, by simp_all [loneF], (St.selT [Blk b1 59 [(.int .i8 (e.op)), (.string e.term.var), (.int .i8 (e.term.val.kind)), (.int .i64 (e.term.val.num)), (.string e.term.val.text), kv]] [] rfl (by decide) st3)⟩
 refine W2 (dj := 6) (bF h4) (OpT.field 5 ⟨b1, 0, none⟩ ⟨b1, 5, none⟩ tf59_2 rfl rfl ?_)
 refine W2 (dj := 6) (bF h4) (OpT.loadS ⟨b1, 5, none⟩ kv ta57 rfl (st3.cellB (i := 0) rfl rfl) ?_)
 refine W2 (dj := 6) (bF h4) (OpT.lenR rfl tu57 hk rfl ?_)
 refine W2 (dj := 6) (bF h4) (OpT.igt .i64 (((e.kids.length : Nat) : Int)) (0) rfl rfl ?_)
 refine W1 (OpT.pickF (.bool (decide (0 < ((e.kids.length : Nat) : Int)))) (bF h4) rfl ?_)
 refine W1 (OpT.move (.bool (decide (0 < ((e.kids.length : Nat) : Int)))) rfl ?_)
 by_cases h5 : 0 < ((e.kids.length : Nat) : Int)
 ·refine WL.pass (dj := 12) (c := true) rfl rfl rfl (bT h5) rfl ?_
  refine WL.pass (dj := 12) (c := true) rfl rfl rfl (bT h5) rfl ?_
  refine WL.pass (dj := 12) (c := true) rfl rfl rfl (bT h5) rfl ?_
  refine WL.pass (dj := 12) (c := true) rfl rfl rfl (bT h5) rfl ?_
  refine W1 (OpT.pickT (.bool true) (bT h5) rfl ?_)
  refine Wnt ?_
  refine WC.condT rfl ?_
  refine Wsr ?_
  refine W1 (OpT.assign ve rfl ?_)
  refine Wnt ?_
  refine WC.ret <| thenQ_r <| retQ.one ve rfl ?_
  exact ⟨_, rfl, by simp_all [loneF], (St.selT [Blk b1 59 [(.int .i8 (e.op)), (.string e.term.var), (.int .i8 (e.term.val.kind)), (.int .i64 (e.term.val.num)), (.string e.term.val.text), kv]] [] rfl (by decide) st3)⟩
 refine W2 (dj := 12) (bF h5) (OpT.field 1 ⟨b1, 0, none⟩ ⟨b1, 1, none⟩ tf59_1 rfl rfl ?_)
 refine W2 (dj := 12) (bF h5) (OpT.field 0 ⟨b1, 1, none⟩ ⟨b1, 1, none⟩ tf38_0 rfl rfl ?_)
 refine W2 (dj := 12) (bF h5) (OpT.loadS ⟨b1, 1, none⟩ (.string e.term.var) ta9 rfl (st3.cellB (i := 0) rfl rfl) ?_)
 refine W2 (dj := 12) (bF h5) (OpT.seq (e.term.var) ((⟨#[95]⟩ : ByteArray)) rfl rfl ?_)
 refine W1 (OpT.pickF (.bool (decide (e.term.var = (⟨#[95]⟩ : ByteArray)))) (bF h5) rfl ?_)
 refine Wnt ?_
 refine WC.condP (e.term.var = (⟨#[95]⟩ : ByteArray)) rfl (fun h6 => ?_) (fun h6 => ?_)
 ·refine WC.seq ?_
  refine WC.region ?_
  refine W1 (OpT.assign ve rfl ?_)
  refine Wnt ?_
  refine WC.ret <| thenQ_r <| retQ.one ve rfl ?_
  exact ⟨_, rfl, by simp_all [loneF], (St.selT [Blk b1 59 [(.int .i8 (e.op)), (.string e.term.var), (.int .i8 (e.term.val.kind)), (.int .i64 (e.term.val.num)), (.string e.term.val.text), kv]] [] rfl (by decide) st3)⟩
 refine WC.skip ?_
 refine thenQ_n ?_
 refine Wsr ?_
 refine W1 (OpT.field 1 ⟨b1, 0, none⟩ ⟨b1, 1, none⟩ tf59_1 rfl rfl ?_)
 refine W1 (OpT.field 0 ⟨b1, 1, none⟩ ⟨b1, 1, none⟩ tf38_0 rfl rfl ?_)
 refine W1 (OpT.loadS ⟨b1, 1, none⟩ (.string e.term.var) ta9 rfl (st3.cellB (i := 0) rfl rfl) ?_)
 refine W1 (OpT.assign (.string e.term.var) rfl ?_)
 refine Wnt ?_
 refine WC.ret <| retQ.one (.string e.term.var) rfl ?_
 exact ⟨_, rfl, by simp_all [loneF], (St.selT [Blk b1 59 [(.int .i8 (e.op)), (.string e.term.var), (.int .i8 (e.term.val.kind)), (.int .i64 (e.term.val.num)), (.string e.term.val.text), kv]] [] rfl (by decide) st3)⟩

theorem take_spec {Z : Nat → Prop} {w0 w : World} {L : List Res} {fb mb : Nat} {lv : Value} {l : List ByteArray} (st : St Z w0 w (FS fb mb lv l L)) (q : Eqn) (a b : Value) (ha : rStr.sl Z w0 a q.lv) (hb : rStr.sl Z w0 b q.rv) (hl : l.length + 1 < 1073741824) : Calls Try.prog 32 #[(pt fb 0), (.agg #[(.string q.l), (.string q.r), a, b])] w (Ret fun r w' => r = .bool (takeB q l) ∧ ∃ lv', St Z w0 w' (FS fb mb lv' (takeL q l) L)) := by
 have olv := st.rowOne (i := 1) rfl
 have clv := st.rowCel (i := 1) rfl
 refine calls_of_WC (m := 49) (rs := [.tmp 4]) Try.func32 rfl rfl rfl rfl ?_
 refine Wsr ?_
 refine W1 (OpT.box st (.agg #[(.string q.l), (.string q.r), a, b]) [(.string q.l), (.string q.r), a, b] rfl rfl (fun b1 w2 st3 => ?_))
 refine W1 (OpT.assign (.bool false) rfl ?_)
 refine Wnt ?_
 refine WC.seq ?_
 refine WC.block ?_
 refine Wsr ?_
 refine W1 (OpT.field 0 ⟨b1, 0, none⟩ ⟨b1, 0, none⟩ tf92_0 rfl rfl ?_)
 refine W1 (OpT.loadS ⟨b1, 0, none⟩ (.string q.l) ta9 rfl (st3.cellB (i := 0) rfl rfl) ?_)
 refine W1 (OpT.sne (q.l) ((⟨#[]⟩ : ByteArray)) rfl rfl ?_)
 refine W1 (OpT.move (.bool (decide (q.l ≠ (⟨#[]⟩ : ByteArray)))) rfl ?_)
 by_cases h4 : q.l ≠ (⟨#[]⟩ : ByteArray)
 ·refine W2 (dj := 9) (bT h4) (OpT.move (pt fb 0) rfl ?_)
  refine W2 (dj := 9) (bT h4) (OpT.field 0 ⟨b1, 0, none⟩ ⟨b1, 0, none⟩ tf92_0 rfl rfl ?_)
  refine W2 (dj := 9) (bT h4) (OpT.loadS ⟨b1, 0, none⟩ (.string q.l) ta9 rfl (st3.cellB (i := 0) rfl rfl) ?_)
  refine W2 (dj := 9) (bT h4) (OpT.callS cal33 [] [] [(pt fb 0), (.string q.l)] rfl (ca2 rfl rfl) (has_spec (St.selT [Blk b1 92 [(.string q.l), (.string q.r), a, b], Blk fb 83 [lv, (.map (some mb))], Row 9 1 lv l.length (l.map Value.string), Mp Value.string (Value.int .i64) mb (fm l)] [1, 2, 3, 0] rfl (by decide) st3) q.l) ?_)
  rintro v5 w6 ⟨rfl, st7⟩
  refine W2 (dj := 9) (bT h4) (OpT.notP (q.l ∈ l) rfl ?_)
  refine W1 (OpT.pickT (.bool (decide (¬ (q.l ∈ l)))) (bT h4) rfl ?_)
  refine W1 (OpT.move (.bool (decide (¬ (q.l ∈ l)))) rfl ?_)
  by_cases h8 : ¬ (q.l ∈ l)
  ·refine W2 (dj := 16) (bT h8) (OpT.move (pt fb 0) rfl ?_)
   refine W2 (dj := 16) (bT h8) (OpT.field 3 ⟨b1, 0, none⟩ ⟨b1, 3, none⟩ tf92_3 rfl rfl ?_)
   refine W2 (dj := 16) (bT h8) (OpT.loadS ⟨b1, 3, none⟩ b ta68 rfl (st7.cellB (i := 3) rfl rfl) ?_)
   refine W2 (dj := 16) (bT h8) (OpT.callS cal16 [] [] [(pt fb 0), b] rfl (ca2 rfl rfl) (all_spec st7 _ q.rv hb) ?_)
   rintro v9 w10 ⟨rfl, st11⟩
   refine W1 (OpT.pickT (.bool (subB q.rv l)) (bT h8) rfl ?_)
   refine W1 (OpT.assign (.bool (subB q.rv l)) rfl ?_)
   refine Wnt ?_
   refine WC.cond ((subB q.rv l)) rfl (fun h12 => ?_) (fun h12 => ?_)
   ·refine WC.region ?_
    refine W1 (OpT.move (pt fb 0) rfl ?_)
    refine W1 (OpT.field 0 ⟨b1, 0, none⟩ ⟨b1, 0, none⟩ tf92_0 rfl rfl ?_)
    refine W1 (OpT.loadS ⟨b1, 0, none⟩ (.string q.l) ta9 rfl (st11.cellB (i := 3) rfl rfl) ?_)
    refine W1 (OpT.buildSlice st11 [(0, (.string q.l))] [(.string q.l)] tu68 ts9 tz9 (mp1 rfl) (by kernel_rfl) (by decide) (fun b13 w14 st15 => ?_))
    obtain ⟨Z16, hz17, hw18, hr19, st21, bk20⟩ := St.freezeB (st15 : St Z w0 w14 (Blk b13 9 [(.string q.l)] :: Blk fb 83 [lv, (.map (some mb))] :: Row 9 1 lv l.length (l.map Value.string) :: Mp Value.string (Value.int .i64) mb (fm l) :: Blk b1 92 [(.string q.l), (.string q.r), a, b] :: L))
    refine W1 (OpT.callS cal27 [] [] [(pt fb 0), (.slice (some ⟨b13, 0, none⟩) 1 1)] rfl (ca2 rfl rfl) (add_spec st21 _ [q.l] (fresh_str hr19) (by simp only [List.length_cons, List.length_nil]; omega)) ?_)
    rintro v25 w26 ⟨rfl, lv22, st27⟩
    replace st27 := bk20 _ _ st27
    have o23 := st27.rowOne (i := 2) rfl
    have c24 := st27.rowCel (i := 2) rfl
    refine WL.nil ?_
    refine blkQ_n ?_
    refine thenQ_n ?_
    refine Wsr ?_
    refine W1 (OpT.assign (.bool true) rfl ?_)
    refine Wnt ?_
    refine WC.ret <| retQ.one (.bool true) rfl ?_
    exact ⟨_, rfl, by simp_all [takeB], _, by rw [show takeL q l = (addNews l [q.l]) from by simp_all [takeL]]; exact (St.selT [Blk b13 9 [(.string q.l)], Blk fb 83 [lv22, (.map (some mb))], Row 9 1 lv22 (addNews l [q.l]).length ((addNews l [q.l]).map Value.string), Mp Value.string (Value.int .i64) mb (fm (addNews l [q.l])), Blk b1 92 [(.string q.l), (.string q.r), a, b]] [1, 2, 3] rfl (by decide) st27)⟩
   refine Wsr ?_
   refine W1 (OpT.field 1 ⟨b1, 0, none⟩ ⟨b1, 1, none⟩ tf92_1 rfl rfl ?_)
   refine W1 (OpT.loadS ⟨b1, 1, none⟩ (.string q.r) ta9 rfl (st11.cellB (i := 3) rfl rfl) ?_)
   refine W1 (OpT.sne (q.r) ((⟨#[]⟩ : ByteArray)) rfl rfl ?_)
   refine W1 (OpT.move (.bool (decide (q.r ≠ (⟨#[]⟩ : ByteArray)))) rfl ?_)
   by_cases h28 : q.r ≠ (⟨#[]⟩ : ByteArray)
   ·refine W2 (dj := 31) (bT h28) (OpT.move (pt fb 0) rfl ?_)
    refine W2 (dj := 31) (bT h28) (OpT.field 1 ⟨b1, 0, none⟩ ⟨b1, 1, none⟩ tf92_1 rfl rfl ?_)
    refine W2 (dj := 31) (bT h28) (OpT.loadS ⟨b1, 1, none⟩ (.string q.r) ta9 rfl (st11.cellB (i := 3) rfl rfl) ?_)
    refine W2 (dj := 31) (bT h28) (OpT.callS cal33 [] [] [(pt fb 0), (.string q.r)] rfl (ca2 rfl rfl) (has_spec st11 q.r) ?_)
    rintro v29 w30 ⟨rfl, st31⟩
    refine W2 (dj := 31) (bT h28) (OpT.notP (q.r ∈ l) rfl ?_)
    refine W1 (OpT.pickT (.bool (decide (¬ (q.r ∈ l)))) (bT h28) rfl ?_)
    refine W1 (OpT.move (.bool (decide (¬ (q.r ∈ l)))) rfl ?_)
    by_cases h32 : ¬ (q.r ∈ l)
    ·refine W2 (dj := 38) (bT h32) (OpT.move (pt fb 0) rfl ?_)
     refine W2 (dj := 38) (bT h32) (OpT.field 2 ⟨b1, 0, none⟩ ⟨b1, 2, none⟩ tf92_2 rfl rfl ?_)
     refine W2 (dj := 38) (bT h32) (OpT.loadS ⟨b1, 2, none⟩ a ta68 rfl (st31.cellB (i := 3) rfl rfl) ?_)
     refine W2 (dj := 38) (bT h32) (OpT.callS cal16 [] [] [(pt fb 0), a] rfl (ca2 rfl rfl) (all_spec st31 _ q.lv ha) ?_)
     rintro v33 w34 ⟨rfl, st35⟩
     refine W1 (OpT.pickT (.bool (subB q.lv l)) (bT h32) rfl ?_)
     refine W1 (OpT.assign (.bool (subB q.lv l)) rfl ?_)
     refine Wnt ?_
     refine WC.cond ((subB q.lv l)) rfl (fun h36 => ?_) (fun h36 => ?_)
     ·refine WC.region ?_
      refine W1 (OpT.move (pt fb 0) rfl ?_)
      refine W1 (OpT.field 1 ⟨b1, 0, none⟩ ⟨b1, 1, none⟩ tf92_1 rfl rfl ?_)
      refine W1 (OpT.loadS ⟨b1, 1, none⟩ (.string q.r) ta9 rfl (st35.cellB (i := 3) rfl rfl) ?_)
      refine W1 (OpT.buildSlice st35 [(0, (.string q.r))] [(.string q.r)] tu68 ts9 tz9 (mp1 rfl) (by kernel_rfl) (by decide) (fun b37 w38 st39 => ?_))
      obtain ⟨Z40, hz41, hw42, hr43, st45, bk44⟩ := St.freezeB (st39 : St Z w0 w38 (Blk b37 9 [(.string q.r)] :: Blk fb 83 [lv, (.map (some mb))] :: Row 9 1 lv l.length (l.map Value.string) :: Mp Value.string (Value.int .i64) mb (fm l) :: Blk b1 92 [(.string q.l), (.string q.r), a, b] :: L))
      refine W1 (OpT.callS cal27 [] [] [(pt fb 0), (.slice (some ⟨b37, 0, none⟩) 1 1)] rfl (ca2 rfl rfl) (add_spec st45 _ [q.r] (fresh_str hr43) (by simp only [List.length_cons, List.length_nil]; omega)) ?_)
      rintro v49 w50 ⟨rfl, lv46, st51⟩
      replace st51 := bk44 _ _ st51
      have o47 := st51.rowOne (i := 2) rfl
      have c48 := st51.rowCel (i := 2) rfl
      refine WL.nil ?_
      refine blkQ_n ?_
      refine thenQ_n ?_
      refine Wsr ?_
      refine W1 (OpT.assign (.bool true) rfl ?_)
      refine Wnt ?_
      refine WC.ret <| retQ.one (.bool true) rfl ?_
      exact ⟨_, rfl, by simp_all [takeB], _, by rw [show takeL q l = (addNews l [q.r]) from by simp_all [takeL]]; exact (St.selT [Blk b37 9 [(.string q.r)], Blk fb 83 [lv46, (.map (some mb))], Row 9 1 lv46 (addNews l [q.r]).length ((addNews l [q.r]).map Value.string), Mp Value.string (Value.int .i64) mb (fm (addNews l [q.r])), Blk b1 92 [(.string q.l), (.string q.r), a, b]] [1, 2, 3] rfl (by decide) st51)⟩
     refine Wsr ?_
     refine W1 (OpT.assign (.bool false) rfl ?_)
     refine Wnt ?_
     refine WC.ret <| blkQ_r <| thenQ_r <| retQ.one (.bool false) rfl ?_
     exact ⟨_, rfl, by simp_all [takeB], _, by rw [show takeL q l = l from by simp_all [takeL]]; exact (St.selT [Blk fb 83 [lv, (.map (some mb))], Row 9 1 lv l.length (l.map Value.string), Mp Value.string (Value.int .i64) mb (fm l), Blk b1 92 [(.string q.l), (.string q.r), a, b]] [0, 1, 2] rfl (by decide) st35)⟩
    refine WL.pass (dj := 38) (c := false) rfl rfl rfl (bF h32) rfl ?_
    refine WL.pass (dj := 38) (c := false) rfl rfl rfl (bF h32) rfl ?_
    refine WL.pass (dj := 38) (c := false) rfl rfl rfl (bF h32) rfl ?_
    refine WL.pass (dj := 38) (c := false) rfl rfl rfl (bF h32) rfl ?_
    refine W1 (OpT.pickF (.bool false) (bF h32) rfl ?_)
    refine W1 (OpT.assign (.bool false) rfl ?_)
    refine Wnt ?_
    refine WC.condF rfl ?_
    refine Wsr ?_
    refine W1 (OpT.assign (.bool false) rfl ?_)
    refine Wnt ?_
    refine WC.ret <| blkQ_r <| thenQ_r <| retQ.one (.bool false) rfl ?_
    exact ⟨_, rfl, by simp_all [takeB], _, by rw [show takeL q l = l from by simp_all [takeL]]; exact (St.selT [Blk fb 83 [lv, (.map (some mb))], Row 9 1 lv l.length (l.map Value.string), Mp Value.string (Value.int .i64) mb (fm l), Blk b1 92 [(.string q.l), (.string q.r), a, b]] [0, 1, 2] rfl (by decide) st31)⟩
   refine WL.pass (dj := 31) (c := false) rfl rfl rfl (bF h28) rfl ?_
   refine WL.pass (dj := 31) (c := false) rfl rfl rfl (bF h28) rfl ?_
   refine WL.pass (dj := 31) (c := false) rfl rfl rfl (bF h28) rfl ?_
   refine WL.pass (dj := 31) (c := false) rfl rfl rfl (bF h28) rfl ?_
   refine WL.pass (dj := 31) (c := false) rfl rfl rfl (bF h28) rfl ?_
   refine W1 (OpT.pickF (.bool false) (bF h28) rfl ?_)
   refine W1 (OpT.move (.bool false) rfl ?_)
   refine WL.pass (dj := 38) (c := false) rfl rfl rfl rfl rfl ?_
   refine WL.pass (dj := 38) (c := false) rfl rfl rfl rfl rfl ?_
   refine WL.pass (dj := 38) (c := false) rfl rfl rfl rfl rfl ?_
   refine WL.pass (dj := 38) (c := false) rfl rfl rfl rfl rfl ?_
   refine W1 (OpT.pickF (.bool false) rfl rfl ?_)
   refine W1 (OpT.assign (.bool false) rfl ?_)
   refine Wnt ?_
   refine WC.condF rfl ?_
   refine Wsr ?_
   refine W1 (OpT.assign (.bool false) rfl ?_)
   refine Wnt ?_
   refine WC.ret <| blkQ_r <| thenQ_r <| retQ.one (.bool false) rfl ?_
   exact ⟨_, rfl, by simp_all [takeB], _, by rw [show takeL q l = l from by simp_all [takeL]]; exact (St.selT [Blk fb 83 [lv, (.map (some mb))], Row 9 1 lv l.length (l.map Value.string), Mp Value.string (Value.int .i64) mb (fm l), Blk b1 92 [(.string q.l), (.string q.r), a, b]] [0, 1, 2] rfl (by decide) st11)⟩
  refine WL.pass (dj := 16) (c := false) rfl rfl rfl (bF h8) rfl ?_
  refine WL.pass (dj := 16) (c := false) rfl rfl rfl (bF h8) rfl ?_
  refine WL.pass (dj := 16) (c := false) rfl rfl rfl (bF h8) rfl ?_
  refine WL.pass (dj := 16) (c := false) rfl rfl rfl (bF h8) rfl ?_
  refine W1 (OpT.pickF (.bool false) (bF h8) rfl ?_)
  refine W1 (OpT.assign (.bool false) rfl ?_)
  refine Wnt ?_
  refine WC.condF rfl ?_
  refine Wsr ?_
  refine W1 (OpT.field 1 ⟨b1, 0, none⟩ ⟨b1, 1, none⟩ tf92_1 rfl rfl ?_)
  refine W1 (OpT.loadS ⟨b1, 1, none⟩ (.string q.r) ta9 rfl (st7.cellB (i := 3) rfl rfl) ?_)
  refine W1 (OpT.sne (q.r) ((⟨#[]⟩ : ByteArray)) rfl rfl ?_)
  refine W1 (OpT.move (.bool (decide (q.r ≠ (⟨#[]⟩ : ByteArray)))) rfl ?_)
  by_cases h52 : q.r ≠ (⟨#[]⟩ : ByteArray)
  ·refine W2 (dj := 31) (bT h52) (OpT.move (pt fb 0) rfl ?_)
   refine W2 (dj := 31) (bT h52) (OpT.field 1 ⟨b1, 0, none⟩ ⟨b1, 1, none⟩ tf92_1 rfl rfl ?_)
   refine W2 (dj := 31) (bT h52) (OpT.loadS ⟨b1, 1, none⟩ (.string q.r) ta9 rfl (st7.cellB (i := 3) rfl rfl) ?_)
   refine W2 (dj := 31) (bT h52) (OpT.callS cal33 [] [] [(pt fb 0), (.string q.r)] rfl (ca2 rfl rfl) (has_spec st7 q.r) ?_)
   rintro v53 w54 ⟨rfl, st55⟩
   refine W2 (dj := 31) (bT h52) (OpT.notP (q.r ∈ l) rfl ?_)
   refine W1 (OpT.pickT (.bool (decide (¬ (q.r ∈ l)))) (bT h52) rfl ?_)
   refine W1 (OpT.move (.bool (decide (¬ (q.r ∈ l)))) rfl ?_)
   by_cases h56 : ¬ (q.r ∈ l)
   ·refine W2 (dj := 38) (bT h56) (OpT.move (pt fb 0) rfl ?_)
    refine W2 (dj := 38) (bT h56) (OpT.field 2 ⟨b1, 0, none⟩ ⟨b1, 2, none⟩ tf92_2 rfl rfl ?_)
    refine W2 (dj := 38) (bT h56) (OpT.loadS ⟨b1, 2, none⟩ a ta68 rfl (st55.cellB (i := 3) rfl rfl) ?_)
    refine W2 (dj := 38) (bT h56) (OpT.callS cal16 [] [] [(pt fb 0), a] rfl (ca2 rfl rfl) (all_spec st55 _ q.lv ha) ?_)
    rintro v57 w58 ⟨rfl, st59⟩
    refine W1 (OpT.pickT (.bool (subB q.lv l)) (bT h56) rfl ?_)
    refine W1 (OpT.assign (.bool (subB q.lv l)) rfl ?_)
    refine Wnt ?_
    refine WC.cond ((subB q.lv l)) rfl (fun h60 => ?_) (fun h60 => ?_)
    ·refine WC.region ?_
     refine W1 (OpT.move (pt fb 0) rfl ?_)
     refine W1 (OpT.field 1 ⟨b1, 0, none⟩ ⟨b1, 1, none⟩ tf92_1 rfl rfl ?_)
     refine W1 (OpT.loadS ⟨b1, 1, none⟩ (.string q.r) ta9 rfl (st59.cellB (i := 3) rfl rfl) ?_)
     refine W1 (OpT.buildSlice st59 [(0, (.string q.r))] [(.string q.r)] tu68 ts9 tz9 (mp1 rfl) (by kernel_rfl) (by decide) (fun b61 w62 st63 => ?_))
     obtain ⟨Z64, hz65, hw66, hr67, st69, bk68⟩ := St.freezeB (st63 : St Z w0 w62 (Blk b61 9 [(.string q.r)] :: Blk fb 83 [lv, (.map (some mb))] :: Row 9 1 lv l.length (l.map Value.string) :: Mp Value.string (Value.int .i64) mb (fm l) :: Blk b1 92 [(.string q.l), (.string q.r), a, b] :: L))
     refine W1 (OpT.callS cal27 [] [] [(pt fb 0), (.slice (some ⟨b61, 0, none⟩) 1 1)] rfl (ca2 rfl rfl) (add_spec st69 _ [q.r] (fresh_str hr67) (by simp only [List.length_cons, List.length_nil]; omega)) ?_)
     rintro v73 w74 ⟨rfl, lv70, st75⟩
     replace st75 := bk68 _ _ st75
     have o71 := st75.rowOne (i := 2) rfl
     have c72 := st75.rowCel (i := 2) rfl
     refine WL.nil ?_
     refine blkQ_n ?_
     refine thenQ_n ?_
     refine Wsr ?_
     refine W1 (OpT.assign (.bool true) rfl ?_)
     refine Wnt ?_
     refine WC.ret <| retQ.one (.bool true) rfl ?_
     exact ⟨_, rfl, by simp_all [takeB], _, by rw [show takeL q l = (addNews l [q.r]) from by simp_all [takeL]]; exact (St.selT [Blk b61 9 [(.string q.r)], Blk fb 83 [lv70, (.map (some mb))], Row 9 1 lv70 (addNews l [q.r]).length ((addNews l [q.r]).map Value.string), Mp Value.string (Value.int .i64) mb (fm (addNews l [q.r])), Blk b1 92 [(.string q.l), (.string q.r), a, b]] [1, 2, 3] rfl (by decide) st75)⟩
    refine Wsr ?_
    refine W1 (OpT.assign (.bool false) rfl ?_)
    refine Wnt ?_
    refine WC.ret <| blkQ_r <| thenQ_r <| retQ.one (.bool false) rfl ?_
    exact ⟨_, rfl, by simp_all [takeB], _, by rw [show takeL q l = l from by simp_all [takeL]]; exact (St.selT [Blk fb 83 [lv, (.map (some mb))], Row 9 1 lv l.length (l.map Value.string), Mp Value.string (Value.int .i64) mb (fm l), Blk b1 92 [(.string q.l), (.string q.r), a, b]] [0, 1, 2] rfl (by decide) st59)⟩
   refine WL.pass (dj := 38) (c := false) rfl rfl rfl (bF h56) rfl ?_
   refine WL.pass (dj := 38) (c := false) rfl rfl rfl (bF h56) rfl ?_
   refine WL.pass (dj := 38) (c := false) rfl rfl rfl (bF h56) rfl ?_
   refine WL.pass (dj := 38) (c := false) rfl rfl rfl (bF h56) rfl ?_
   refine W1 (OpT.pickF (.bool false) (bF h56) rfl ?_)
   refine W1 (OpT.assign (.bool false) rfl ?_)
   refine Wnt ?_
   refine WC.condF rfl ?_
   refine Wsr ?_
   refine W1 (OpT.assign (.bool false) rfl ?_)
   refine Wnt ?_
   refine WC.ret <| blkQ_r <| thenQ_r <| retQ.one (.bool false) rfl ?_
   exact ⟨_, rfl, by simp_all [takeB], _, by rw [show takeL q l = l from by simp_all [takeL]]; exact (St.selT [Blk fb 83 [lv, (.map (some mb))], Row 9 1 lv l.length (l.map Value.string), Mp Value.string (Value.int .i64) mb (fm l), Blk b1 92 [(.string q.l), (.string q.r), a, b]] [0, 1, 2] rfl (by decide) st55)⟩
  refine WL.pass (dj := 31) (c := false) rfl rfl rfl (bF h52) rfl ?_
  refine WL.pass (dj := 31) (c := false) rfl rfl rfl (bF h52) rfl ?_
  refine WL.pass (dj := 31) (c := false) rfl rfl rfl (bF h52) rfl ?_
  refine WL.pass (dj := 31) (c := false) rfl rfl rfl (bF h52) rfl ?_
  refine WL.pass (dj := 31) (c := false) rfl rfl rfl (bF h52) rfl ?_
  refine W1 (OpT.pickF (.bool false) (bF h52) rfl ?_)
  refine W1 (OpT.move (.bool false) rfl ?_)
  refine WL.pass (dj := 38) (c := false) rfl rfl rfl rfl rfl ?_
  refine WL.pass (dj := 38) (c := false) rfl rfl rfl rfl rfl ?_
  refine WL.pass (dj := 38) (c := false) rfl rfl rfl rfl rfl ?_
  refine WL.pass (dj := 38) (c := false) rfl rfl rfl rfl rfl ?_
  refine W1 (OpT.pickF (.bool false) rfl rfl ?_)
  refine W1 (OpT.assign (.bool false) rfl ?_)
  refine Wnt ?_
  refine WC.condF rfl ?_
  refine Wsr ?_
  refine W1 (OpT.assign (.bool false) rfl ?_)
  refine Wnt ?_
  refine WC.ret <| blkQ_r <| thenQ_r <| retQ.one (.bool false) rfl ?_
  exact ⟨_, rfl, by simp_all [takeB], _, by rw [show takeL q l = l from by simp_all [takeL]]; exact (St.selT [Blk fb 83 [lv, (.map (some mb))], Row 9 1 lv l.length (l.map Value.string), Mp Value.string (Value.int .i64) mb (fm l), Blk b1 92 [(.string q.l), (.string q.r), a, b]] [0, 1, 2] rfl (by decide) st7)⟩
 refine WL.pass (dj := 9) (c := false) rfl rfl rfl (bF h4) rfl ?_
 refine WL.pass (dj := 9) (c := false) rfl rfl rfl (bF h4) rfl ?_
 refine WL.pass (dj := 9) (c := false) rfl rfl rfl (bF h4) rfl ?_
 refine WL.pass (dj := 9) (c := false) rfl rfl rfl (bF h4) rfl ?_
 refine WL.pass (dj := 9) (c := false) rfl rfl rfl (bF h4) rfl ?_
 refine W1 (OpT.pickF (.bool false) (bF h4) rfl ?_)
 refine W1 (OpT.move (.bool false) rfl ?_)
 refine WL.pass (dj := 16) (c := false) rfl rfl rfl rfl rfl ?_
 refine WL.pass (dj := 16) (c := false) rfl rfl rfl rfl rfl ?_
 refine WL.pass (dj := 16) (c := false) rfl rfl rfl rfl rfl ?_
 refine WL.pass (dj := 16) (c := false) rfl rfl rfl rfl rfl ?_
 refine W1 (OpT.pickF (.bool false) rfl rfl ?_)
 refine W1 (OpT.assign (.bool false) rfl ?_)
 refine Wnt ?_
 refine WC.condF rfl ?_
 refine Wsr ?_
 refine W1 (OpT.field 1 ⟨b1, 0, none⟩ ⟨b1, 1, none⟩ tf92_1 rfl rfl ?_)
 refine W1 (OpT.loadS ⟨b1, 1, none⟩ (.string q.r) ta9 rfl (st3.cellB (i := 0) rfl rfl) ?_)
 refine W1 (OpT.sne (q.r) ((⟨#[]⟩ : ByteArray)) rfl rfl ?_)
 refine W1 (OpT.move (.bool (decide (q.r ≠ (⟨#[]⟩ : ByteArray)))) rfl ?_)
 by_cases h76 : q.r ≠ (⟨#[]⟩ : ByteArray)
 ·refine W2 (dj := 31) (bT h76) (OpT.move (pt fb 0) rfl ?_)
  refine W2 (dj := 31) (bT h76) (OpT.field 1 ⟨b1, 0, none⟩ ⟨b1, 1, none⟩ tf92_1 rfl rfl ?_)
  refine W2 (dj := 31) (bT h76) (OpT.loadS ⟨b1, 1, none⟩ (.string q.r) ta9 rfl (st3.cellB (i := 0) rfl rfl) ?_)
  refine W2 (dj := 31) (bT h76) (OpT.callS cal33 [] [] [(pt fb 0), (.string q.r)] rfl (ca2 rfl rfl) (has_spec (St.selT [Blk b1 92 [(.string q.l), (.string q.r), a, b], Blk fb 83 [lv, (.map (some mb))], Row 9 1 lv l.length (l.map Value.string), Mp Value.string (Value.int .i64) mb (fm l)] [1, 2, 3, 0] rfl (by decide) st3) q.r) ?_)
  rintro v77 w78 ⟨rfl, st79⟩
  refine W2 (dj := 31) (bT h76) (OpT.notP (q.r ∈ l) rfl ?_)
  refine W1 (OpT.pickT (.bool (decide (¬ (q.r ∈ l)))) (bT h76) rfl ?_)
  refine W1 (OpT.move (.bool (decide (¬ (q.r ∈ l)))) rfl ?_)
  by_cases h80 : ¬ (q.r ∈ l)
  ·refine W2 (dj := 38) (bT h80) (OpT.move (pt fb 0) rfl ?_)
   refine W2 (dj := 38) (bT h80) (OpT.field 2 ⟨b1, 0, none⟩ ⟨b1, 2, none⟩ tf92_2 rfl rfl ?_)
   refine W2 (dj := 38) (bT h80) (OpT.loadS ⟨b1, 2, none⟩ a ta68 rfl (st79.cellB (i := 3) rfl rfl) ?_)
   refine W2 (dj := 38) (bT h80) (OpT.callS cal16 [] [] [(pt fb 0), a] rfl (ca2 rfl rfl) (all_spec st79 _ q.lv ha) ?_)
   rintro v81 w82 ⟨rfl, st83⟩
   refine W1 (OpT.pickT (.bool (subB q.lv l)) (bT h80) rfl ?_)
   refine W1 (OpT.assign (.bool (subB q.lv l)) rfl ?_)
   refine Wnt ?_
   refine WC.cond ((subB q.lv l)) rfl (fun h84 => ?_) (fun h84 => ?_)
   ·refine WC.region ?_
    refine W1 (OpT.move (pt fb 0) rfl ?_)
    refine W1 (OpT.field 1 ⟨b1, 0, none⟩ ⟨b1, 1, none⟩ tf92_1 rfl rfl ?_)
    refine W1 (OpT.loadS ⟨b1, 1, none⟩ (.string q.r) ta9 rfl (st83.cellB (i := 3) rfl rfl) ?_)
    refine W1 (OpT.buildSlice st83 [(0, (.string q.r))] [(.string q.r)] tu68 ts9 tz9 (mp1 rfl) (by kernel_rfl) (by decide) (fun b85 w86 st87 => ?_))
    obtain ⟨Z88, hz89, hw90, hr91, st93, bk92⟩ := St.freezeB (st87 : St Z w0 w86 (Blk b85 9 [(.string q.r)] :: Blk fb 83 [lv, (.map (some mb))] :: Row 9 1 lv l.length (l.map Value.string) :: Mp Value.string (Value.int .i64) mb (fm l) :: Blk b1 92 [(.string q.l), (.string q.r), a, b] :: L))
    refine W1 (OpT.callS cal27 [] [] [(pt fb 0), (.slice (some ⟨b85, 0, none⟩) 1 1)] rfl (ca2 rfl rfl) (add_spec st93 _ [q.r] (fresh_str hr91) (by simp only [List.length_cons, List.length_nil]; omega)) ?_)
    rintro v97 w98 ⟨rfl, lv94, st99⟩
    replace st99 := bk92 _ _ st99
    have o95 := st99.rowOne (i := 2) rfl
    have c96 := st99.rowCel (i := 2) rfl
    refine WL.nil ?_
    refine blkQ_n ?_
    refine thenQ_n ?_
    refine Wsr ?_
    refine W1 (OpT.assign (.bool true) rfl ?_)
    refine Wnt ?_
    refine WC.ret <| retQ.one (.bool true) rfl ?_
    exact ⟨_, rfl, by simp_all [takeB], _, by rw [show takeL q l = (addNews l [q.r]) from by simp_all [takeL]]; exact (St.selT [Blk b85 9 [(.string q.r)], Blk fb 83 [lv94, (.map (some mb))], Row 9 1 lv94 (addNews l [q.r]).length ((addNews l [q.r]).map Value.string), Mp Value.string (Value.int .i64) mb (fm (addNews l [q.r])), Blk b1 92 [(.string q.l), (.string q.r), a, b]] [1, 2, 3] rfl (by decide) st99)⟩
   refine Wsr ?_
   refine W1 (OpT.assign (.bool false) rfl ?_)
   refine Wnt ?_
   refine WC.ret <| blkQ_r <| thenQ_r <| retQ.one (.bool false) rfl ?_
   exact ⟨_, rfl, by simp_all [takeB], _, by rw [show takeL q l = l from by simp_all [takeL]]; exact (St.selT [Blk fb 83 [lv, (.map (some mb))], Row 9 1 lv l.length (l.map Value.string), Mp Value.string (Value.int .i64) mb (fm l), Blk b1 92 [(.string q.l), (.string q.r), a, b]] [0, 1, 2] rfl (by decide) st83)⟩
  refine WL.pass (dj := 38) (c := false) rfl rfl rfl (bF h80) rfl ?_
  refine WL.pass (dj := 38) (c := false) rfl rfl rfl (bF h80) rfl ?_
  refine WL.pass (dj := 38) (c := false) rfl rfl rfl (bF h80) rfl ?_
  refine WL.pass (dj := 38) (c := false) rfl rfl rfl (bF h80) rfl ?_
  refine W1 (OpT.pickF (.bool false) (bF h80) rfl ?_)
  refine W1 (OpT.assign (.bool false) rfl ?_)
  refine Wnt ?_
  refine WC.condF rfl ?_
  refine Wsr ?_
  refine W1 (OpT.assign (.bool false) rfl ?_)
  refine Wnt ?_
  refine WC.ret <| blkQ_r <| thenQ_r <| retQ.one (.bool false) rfl ?_
  exact ⟨_, rfl, by simp_all [takeB], _, by rw [show takeL q l = l from by simp_all [takeL]]; exact (St.selT [Blk fb 83 [lv, (.map (some mb))], Row 9 1 lv l.length (l.map Value.string), Mp Value.string (Value.int .i64) mb (fm l), Blk b1 92 [(.string q.l), (.string q.r), a, b]] [0, 1, 2] rfl (by decide) st79)⟩
 refine WL.pass (dj := 31) (c := false) rfl rfl rfl (bF h76) rfl ?_
 refine WL.pass (dj := 31) (c := false) rfl rfl rfl (bF h76) rfl ?_
 refine WL.pass (dj := 31) (c := false) rfl rfl rfl (bF h76) rfl ?_
 refine WL.pass (dj := 31) (c := false) rfl rfl rfl (bF h76) rfl ?_
 refine WL.pass (dj := 31) (c := false) rfl rfl rfl (bF h76) rfl ?_
 refine W1 (OpT.pickF (.bool false) (bF h76) rfl ?_)
 refine W1 (OpT.move (.bool false) rfl ?_)
 refine WL.pass (dj := 38) (c := false) rfl rfl rfl rfl rfl ?_
 refine WL.pass (dj := 38) (c := false) rfl rfl rfl rfl rfl ?_
 refine WL.pass (dj := 38) (c := false) rfl rfl rfl rfl rfl ?_
 refine WL.pass (dj := 38) (c := false) rfl rfl rfl rfl rfl ?_
 refine W1 (OpT.pickF (.bool false) rfl rfl ?_)
 refine W1 (OpT.assign (.bool false) rfl ?_)
 refine Wnt ?_
 refine WC.condF rfl ?_
 refine Wsr ?_
 refine W1 (OpT.assign (.bool false) rfl ?_)
 refine Wnt ?_
 refine WC.ret <| blkQ_r <| thenQ_r <| retQ.one (.bool false) rfl ?_
 exact ⟨_, rfl, by simp_all [takeB], _, by rw [show takeL q l = l from by simp_all [takeL]]; exact (St.selT [Blk b1 92 [(.string q.l), (.string q.r), a, b], Blk fb 83 [lv, (.map (some mb))], Row 9 1 lv l.length (l.map Value.string), Mp Value.string (Value.int .i64) mb (fm l)] [1, 2, 3] rfl (by decide) st3)⟩

end Go.Ped
