/- Parts F13, F15, F16, F17, F18, F19, F21, F22, F29, EngP, EngS, EngT, EngU, EngV, Srt of the proof. -/
import Derived.Test.YtojkakpkmfopbaaGreatWa2
import Derived.Test.YtojkakpkmfopbaaGreatWa1
import Derived.Laws.OwnMore
import Derived.Shelf.Small.Strs
import Derived.Shelf.SlSortCmp.NoneTotal
import Derived.Shelf.SlIter.Collect
import Derived.Ground.NamesProg
import Derived.Ground.SlsfProg
import Derived.Ground.GgzProg
import Derived.Test.YtojkakpkmfopbaaGreatProg
set_option linter.unusedVariables false
set_option maxRecDepth 20000
namespace Go.Ped
open Go Go.Eng Go.RowKit Go.Proofs

theorem tf136_0 : fieldB Tryz.prog 136 0 = some 0 := by kernel_rfl
theorem ta134 : aggB Tryz.prog 134 = some false := by kernel_rfl
theorem tu134 : Tryz.prog.underlying 134 = some (.slice 142) := by kernel_rfl
theorem ts142 : sizeB Tryz.prog 142 = some 4 := by kernel_rfl
theorem ta142 : aggB Tryz.prog 142 = some true := by kernel_rfl
theorem tz142 : zeroB Tryz.prog 142 = some (.agg #[(.string (⟨#[]⟩ : ByteArray)), (.string (⟨#[]⟩ : ByteArray)), (.slice none 0 0), (.slice none 0 0)]) := by kernel_rfl
theorem cal73 : CallOk Tryz.prog 73 := ⟨⟨Tryz.f73, Tryz.func73, rfl, by decide⟩⟩
theorem tb142 : (Tryz.prog.info? 142).map (·.bytes) = some 80 := by kernel_rfl
theorem ts134 : sizeB Tryz.prog 134 = some 1 := by kernel_rfl
def rnd (es : List Eqn × List ByteArray) (q : Eqn) : List Eqn × List ByteArray := if takeB q es.2 then (es.1, takeL q es.2) else (es.1 ++ [q], takeL q es.2)
def rndF (eqs : List Eqn) (l : List ByteArray) : List Eqn × List ByteArray := eqs.foldl rnd ([], l)
theorem rnd_step {eqs : List Eqn} {i : Nat} {q : Eqn} (hx : eqs[i]? = some q) (l : List ByteArray) : rndF (eqs.take (i + 1)) l = rnd (rndF (eqs.take i) l) q := by
  rw [List.take_add_one, hx, rndF, List.foldl_append]; rfl
theorem takeL_len (q : Eqn) (l : List ByteArray) : (takeL q l).length ≤ l.length + 1 := by
  unfold takeL; split
  · exact addNews_len l [q.l]
  · split
    · exact addNews_len l [q.r]
    · omega
theorem rndF_len (eqs : List Eqn) (l : List ByteArray) : (rndF eqs l).2.length ≤ l.length + eqs.length ∧ (rndF eqs l).1.length ≤ eqs.length := by
  have : ∀ (es : List Eqn × List ByteArray), (eqs.foldl rnd es).2.length ≤ es.2.length + eqs.length ∧ (eqs.foldl rnd es).1.length ≤ es.1.length + eqs.length := by
    induction eqs with
    | nil => intro es; simp
    | cons q qs ih =>
      intro es
      have h := ih (rnd es q)
      have h2 := takeL_len q es.2
      have h3 : (rnd es q).2.length ≤ es.2.length + 1 ∧ (rnd es q).1.length ≤ es.1.length + 1 := by unfold rnd; split <;> simp <;> omega
      simp only [List.foldl_cons, List.length_cons]; omega
  simpa [rndF] using this ([], l)
theorem round_spec {Z : Nat → Prop} {w0 w : World} {L : List Res} {rb fb mb : Nat} {rv lv : Value} {eqs : List Eqn} {cs : List Value} {l : List ByteArray} (st : St Z w0 w (Blk rb 136 [rv] :: Row 142 4 rv eqs.length cs :: FS fb mb lv l L)) (HE : RowsOf (rEqn.R Z w0) 4 cs eqs) (hl : l.length + eqs.length + 1 < 1073741824) : Calls Tryz.prog 72 #[(pt rb 0), (.func (.func 73) #[(pt fb 0)] #[])] w (Ret fun r w' => ∃ Z' w1 rv' cs' lv', Ext Z w0 Z' w1 ∧ r = .bool (decide (((rndF eqs l).1.length : Int) < (eqs.length : Int))) ∧ St Z' w1 w' (Blk rb 136 [rv'] :: Row 142 4 rv' (rndF eqs l).1.length cs' :: FS fb mb lv' (rndF eqs l).2 L) ∧ RowsOf (rEqn.R Z' w1) 4 cs' (rndF eqs l).1) := by
 obtain ⟨Z2, hx, hsl, st⟩ := St.freezeRow (r := rEqn) (St.selT [Blk rb 136 [rv], Row 142 4 rv eqs.length cs] [1, 0] rfl (by decide) st) (by omega) HE.2
 replace st := st.rowNil 142 4
 have olv := st.rowOne (i := 3) rfl
 have clv := st.rowCel (i := 3) rfl
 have hsl_le := Rl.sl_le hsl
 refine calls_of_WC (m := 40) (rs := [.tmp 4]) Tryz.func72 rfl rfl rfl rfl ?_
 refine Wsr ?_
 refine W1 (OpT.assign (.bool false) rfl ?_)
 refine Wns ?_
 refine W1 (OpT.move (pt rb 0) rfl ?_)
 refine W1 (OpT.nilc ⟨rb, 0, none⟩ rfl ?_)
 refine W1 (OpT.field 0 ⟨rb, 0, none⟩ ⟨rb, 0, none⟩ tf136_0 rfl rfl ?_)
 refine W1 (OpT.loadS ⟨rb, 0, none⟩ rv ta134 rfl (st.cellB (i := 1) rfl rfl) ?_)
 refine W1 (OpT.lenR rfl tu134 hsl rfl ?_)
 refine W1 (OpT.assign (ni (eqs.length)) rfl ?_)
 refine Wns ?_
 refine W1 (OpT.assign vn rfl ?_)
 refine Wnt ?_
 refine WC.seq ?_
 refine Wsr ?_
 refine W1 (OpT.move (pt rb 0) rfl ?_)
 refine W1 (OpT.nilc ⟨rb, 0, none⟩ rfl ?_)
 refine W1 (OpT.field 0 ⟨rb, 0, none⟩ ⟨rb, 0, none⟩ tf136_0 rfl rfl ?_)
 refine W1 (OpT.loadS ⟨rb, 0, none⟩ rv ta134 rfl (st.cellB (i := 1) rfl rfl) ?_)
 refine W1 (OpT.lenR rfl tu134 hsl rfl ?_)
 refine W1 (OpT.move (ii 0) rfl ?_)
 refine Wnt ?_
 refine WC.block ?_
 have st1 : St Z2 w w (Blk rb 136 [rv] :: Row 142 4 vn 0 ([] : List Value) :: Blk fb 133 [lv, (.map (some mb))] :: Row 9 1 lv l.length (l.map Value.string) :: Mp Value.string (Value.int .i64) mb (fm l) :: L) := St.selT [Row 142 4 vn 0 ([] : List Value), Blk rb 136 [rv], Blk fb 133 [lv, (.map (some mb))], Row 9 1 lv l.length (l.map Value.string), Mp Value.string (Value.int .i64) mb (fm l)] [1, 0, 2, 3, 4] rfl (by decide) st
 refine WC.loop (fun m ρ wz => ∃ (i : Nat), ∃ (lv2 : Value), ∃ (lf : Value), ∃ (cs2 : List Value), m = eqs.length - i ∧ i ≤ eqs.length ∧ RowsOf (rEqn.R Z2 w) 4 cs2 (rndF (eqs.take i) l).1 ∧ ρ 6 = lf ∧ ρ 19 = (ni i) ∧ ρ 0 = (pt rb 0) ∧ ρ 1 = (.func (.func 73) #[(pt fb 0)] #[]) ∧ ρ 5 = (ni (eqs.length)) ∧ ρ 17 = rv ∧ ρ 18 = (ni (eqs.length)) ∧ St Z2 w wz (Blk rb 136 [rv] :: Row 142 4 lf (rndF (eqs.take i) l).1.length cs2 :: Blk fb 133 [lv2, (.map (some mb))] :: Row 9 1 lv2 ((rndF (eqs.take i) l).2).length (((rndF (eqs.take i) l).2).map Value.string) :: Mp Value.string (Value.int .i64) mb (fm ((rndF (eqs.take i) l).2)) :: L)) _ ⟨0, lv, vn, [], rfl, by omega, RowsOf.nil, rfl, rfl, rfl, rfl, rfl, rfl, rfl, st1⟩ ?_
 rintro m2 ρ3 w4 ⟨i, lv2, lf, cs2, hm14, hp6, HR, hs8, hs7, hs9, hs10, hs11, hs12, hs13, st5⟩
 have olv2 := st5.rowOne (i := 3) rfl
 have clv2 := st5.rowCel (i := 3) rfl
 have olf := st5.rowOne (i := 1) rfl
 have clf := st5.rowCel (i := 1) rfl
 have htk : (eqs.take i).length ≤ eqs.length := by rw [List.length_take]; omega
 have hal := rndF_len (eqs.take i) l
 refine Wsr ?_
 refine W1 (OpT.ilt .i64 (((i : Nat) : Int)) (((eqs.length : Nat) : Int)) hs7 hs13 ?_)
 refine Wnt ?_
 refine WC.seq ?_
 refine WC.condP (((i : Nat) : Int) < ((eqs.length : Nat) : Int)) rfl (fun h15 => ?_) (fun h15 => ?_)
 ·refine WC.skip ?_
  refine thenQ_n ?_
  refine WC.seq ?_
  refine WC.block ?_
  refine Wsr ?_
  obtain ⟨x16, hx16⟩ : ∃ x, (eqs)[i]? = some x := ⟨_, List.getElem?_eq_getElem (by omega)⟩
  refine W1 (OpT.idxX tu134 ts142 hsl hs12 .i64 (i) hs7 hx16 (fun ad17 cs18 hr19 hR20 => ?_))
  have hR20c := hR20
  obtain ⟨ev21, ew22, rfl, he23, hf24⟩ := hR20
  refine W1 (OpT.loadA ad17 4 [(.string x16.l), (.string x16.r), ev21, ew22] ta142 ts142 rfl ((hr19.at st5).part 0 4) rfl ?_)
  refine W1 (OpT.alloc st5 (.agg #[ve, ve, vn, vn]) [ve, ve, vn, vn] tz142 rfl (fun b25 w26 st27 => ?_))
  refine WL.stepN (OpT.storeA st27 0 4 [(.string x16.l), (.string x16.r), ev21, ew22] rfl ts142 rfl rfl (aC rfl (aC rfl (aC (Rl.sl_one he23) (aC (Rl.sl_one hf24) aN)))) rfl rfl (fun w28 st29 => ?_))
  refine Wns ?_
  refine W1 (OpT.move (.func (.func 73) #[(pt fb 0)] #[]) hs10 ?_)
  refine W1 (OpT.loadA ⟨b25, 0, none⟩ 4 [(.string x16.l), (.string x16.r), ev21, ew22] ta142 ts142 rfl ((st29.rowB (i := 0) rfl).part 0 4) rfl ?_)
  refine W1 (OpT.callS cal73 [(pt fb 0)] [] [(pt fb 0), (.agg #[(.string x16.l), (.string x16.r), ev21, ew22])] rfl (caF (ca1 rfl)) (take_spec (St.selT [Blk b25 142 [(.string x16.l), (.string x16.r), ev21, ew22], Blk rb 136 [rv], Row 142 4 lf (rndF (eqs.take i) l).1.length cs2, Blk fb 133 [lv2, (.map (some mb))], Row 9 1 lv2 ((rndF (eqs.take i) l).2).length (((rndF (eqs.take i) l).2).map Value.string), Mp Value.string (Value.int .i64) mb (fm ((rndF (eqs.take i) l).2))] [3, 4, 5, 0, 1, 2] rfl (by decide) st29) x16 _ _ he23 hf24 (by omega)) ?_)
  rintro v33 w34 ⟨rfl, lv30, st35⟩
  have o31 := st35.rowOne (i := 1) rfl
  have c32 := st35.rowCel (i := 1) rfl
  refine W1 (OpT.not (takeB x16 ((rndF (eqs.take i) l).2)) rfl ?_)
  refine Wnt ?_
  refine WC.cond ((!(takeB x16 ((rndF (eqs.take i) l).2)))) rfl (fun h36 => ?_) (fun h36 => ?_)
  ·refine WC.region ?_
   refine W1 (OpT.move lf hs8 ?_)
   refine W1 (OpT.loadA ⟨b25, 0, none⟩ 4 [(.string x16.l), (.string x16.r), ev21, ew22] ta142 ts142 rfl ((st35.rowB (i := 3) rfl).part 0 4) rfl ?_)
   refine W1 (OpT.buildSlice st35 [(0, (.agg #[(.string x16.l), (.string x16.r), ev21, ew22]))] [(.string x16.l), (.string x16.r), ev21, ew22] tu134 ts142 tz142 (mp1 rfl) (by kernel_rfl) (by decide) (fun b37 w38 st39 => ?_))
   have st40 : St Z2 w w38 (Blk b37 142 [(.string x16.l), (.string x16.r), ev21, ew22] :: Row 142 4 lf (rndF (eqs.take i) l).1.length cs2 :: Blk fb 133 [lv30, (.map (some mb))] :: Row 9 1 lv30 (takeL x16 ((rndF (eqs.take i) l).2)).length ((takeL x16 ((rndF (eqs.take i) l).2)).map Value.string) :: Mp Value.string (Value.int .i64) mb (fm (takeL x16 ((rndF (eqs.take i) l).2))) :: Blk b25 142 [(.string x16.l), (.string x16.r), ev21, ew22] :: Blk rb 136 [rv] :: L) := St.selT [Blk b37 142 [(.string x16.l), (.string x16.r), ev21, ew22], Blk fb 133 [lv30, (.map (some mb))], Row 9 1 lv30 (takeL x16 ((rndF (eqs.take i) l).2)).length ((takeL x16 ((rndF (eqs.take i) l).2)).map Value.string), Mp Value.string (Value.int .i64) mb (fm (takeL x16 ((rndF (eqs.take i) l).2))), Blk b25 142 [(.string x16.l), (.string x16.r), ev21, ew22], Blk rb 136 [rv], Row 142 4 lf (rndF (eqs.take i) l).1.length cs2] [0, 6, 1, 2, 3, 4, 5] rfl (by decide) st39
   refine W1 (OpT.append st40 1 tu134 ts142 tz142 rfl tb142 (by decide) rfl rfl rfl (aC rfl (aC rfl (aC (Rl.sl_one he23) (aC (Rl.sl_one hf24) aN)))) (by omega) (by omega) (fun v41 w42 st43 hn44 => ?_))
   have o45 := st43.rowOne (i := 0) rfl
   have c46 := st43.rowCel (i := 0) rfl
   refine W1 (OpT.assign v41 rfl ?_)
   refine WL.nil ?_
   refine blkQ_n ?_
   refine thenQ_n ?_
   refine WC.region ?_
   refine W1 (OpT.iadd .i64 (((i : Nat) : Int)) (1) (((i + 1 : Nat) : Int)) hs7 rfl (wadd (a := i) (b := 1) (by omega)) ?_)
   refine W1 (OpT.move (ni (i + 1)) rfl ?_)
   refine WL.nil ?_
   have e48 : rndF (eqs.take (i + 1)) l = ((rndF (eqs.take i) l).1 ++ [x16], takeL x16 (rndF (eqs.take i) l).2) := by rw [rnd_step hx16, rnd]; simp_all
   have st47 : St Z2 w w42 (Blk rb 136 [rv] :: Row 142 4 v41 (rndF (eqs.take (i + 1)) l).1.length (cs2 ++ [(.string x16.l), (.string x16.r), ev21, ew22]) :: Blk fb 133 [lv30, (.map (some mb))] :: Row 9 1 lv30 ((rndF (eqs.take (i + 1)) l).2).length (((rndF (eqs.take (i + 1)) l).2).map Value.string) :: Mp Value.string (Value.int .i64) mb (fm ((rndF (eqs.take (i + 1)) l).2)) :: L) := by rw [e48]; simp only [List.length_append, List.length_cons, List.length_nil]; exact (St.selT [Row 142 4 v41 ((rndF (eqs.take i) l).1.length + 1) (cs2 ++ [(.string x16.l), (.string x16.r), ev21, ew22]), Blk fb 133 [lv30, (.map (some mb))], Row 9 1 lv30 (takeL x16 ((rndF (eqs.take i) l).2)).length ((takeL x16 ((rndF (eqs.take i) l).2)).map Value.string), Mp Value.string (Value.int .i64) mb (fm (takeL x16 ((rndF (eqs.take i) l).2))), Blk b25 142 [(.string x16.l), (.string x16.r), ev21, ew22], Blk rb 136 [rv]] [5, 0, 1, 2, 3] rfl (by decide) st43)
   exact loopQ_n _ (by omega) ⟨i + 1, lv30, v41, (cs2 ++ [(.string x16.l), (.string x16.r), ev21, ew22]), rfl, by omega, by rw [e48]; exact HR.snoc rfl ⟨_, _, rfl, he23, hf24⟩, rfl, rfl, hs9, hs10, hs11, hs12, hs13, st47⟩
  refine WC.skip ?_
  refine blkQ_n ?_
  refine thenQ_n ?_
  refine WC.region ?_
  refine W1 (OpT.iadd .i64 (((i : Nat) : Int)) (1) (((i + 1 : Nat) : Int)) hs7 rfl (wadd (a := i) (b := 1) (by omega)) ?_)
  refine W1 (OpT.move (ni (i + 1)) rfl ?_)
  refine WL.nil ?_
  have e50 : rndF (eqs.take (i + 1)) l = ((rndF (eqs.take i) l).1, takeL x16 (rndF (eqs.take i) l).2) := by rw [rnd_step hx16, rnd]; simp_all
  have st49 : St Z2 w w34 (Blk rb 136 [rv] :: Row 142 4 lf (rndF (eqs.take (i + 1)) l).1.length cs2 :: Blk fb 133 [lv30, (.map (some mb))] :: Row 9 1 lv30 ((rndF (eqs.take (i + 1)) l).2).length (((rndF (eqs.take (i + 1)) l).2).map Value.string) :: Mp Value.string (Value.int .i64) mb (fm ((rndF (eqs.take (i + 1)) l).2)) :: L) := by rw [e50];  exact (St.selT [Blk fb 133 [lv30, (.map (some mb))], Row 9 1 lv30 (takeL x16 ((rndF (eqs.take i) l).2)).length ((takeL x16 ((rndF (eqs.take i) l).2)).map Value.string), Mp Value.string (Value.int .i64) mb (fm (takeL x16 ((rndF (eqs.take i) l).2))), Blk b25 142 [(.string x16.l), (.string x16.r), ev21, ew22], Blk rb 136 [rv], Row 142 4 lf (rndF (eqs.take i) l).1.length cs2] [4, 5, 0, 1, 2] rfl (by decide) st35)
  exact loopQ_n _ (by omega) ⟨i + 1, lv30, lf, cs2, rfl, by omega, by rw [e50]; exact HR, hs8, rfl, hs9, hs10, hs11, hs12, hs13, st49⟩
 refine WC.exit ?_
 refine thenQ_x ?_
 refine loopQ_x ?_
 refine blkQ_hit ?_
 refine thenQ_n ?_
 refine Wsr ?_
 refine W1 (OpT.move (pt rb 0) hs9 ?_)
 refine W1 (OpT.move lf hs8 ?_)
 refine W1 (OpT.nilc ⟨rb, 0, none⟩ rfl ?_)
 refine W1 (OpT.field 0 ⟨rb, 0, none⟩ ⟨rb, 0, none⟩ tf136_0 rfl rfl ?_)
 refine WL.stepN (OpT.storeS st5 0 lf rfl ts134 rfl rfl olf clf rfl (fun w51 st52 => ?_))
 refine Wns ?_
 refine W1 (OpT.move lf hs8 ?_)
 refine W1 (OpT.lenRow st52 1 rfl rfl tu134 rfl ?_)
 refine W1 (OpT.move (ni (eqs.length)) hs11 ?_)
 refine W1 (OpT.ilt .i64 ((((rndF (eqs.take i) l).1.length : Nat) : Int)) (((eqs.length : Nat) : Int)) rfl rfl ?_)
 refine W1 (OpT.assign (.bool (decide ((((rndF (eqs.take i) l).1.length : Nat) : Int) < ((eqs.length : Nat) : Int)))) rfl ?_)
 refine Wnt ?_
 refine WC.ret <| retQ.one (.bool (decide ((((rndF (eqs.take i) l).1.length : Nat) : Int) < ((eqs.length : Nat) : Int)))) rfl ?_
 have e : eqs.take i = eqs := List.take_of_length_le (by omega)
 rw [e] at HR st52
 exact ⟨_, rfl, Z2, w, lf, cs2, lv2, hx, by rw [e], st52, HR⟩

end Go.Ped
set_option linter.unusedVariables false
set_option maxRecDepth 20000
namespace Go.Ped
open Go Go.Eng Go.RowKit Go.Proofs

theorem tp62 : placesB Tryz.prog 62 = some [(0, 1), (1, 1)] := by kernel_rfl
theorem tz62 : zeroB Tryz.prog 62 = some (.agg #[(.string (⟨#[]⟩ : ByteArray)), (.slice none 0 0)]) := by kernel_rfl
theorem tp74 : placesB Tryz.prog 74 = some [(0, 1), (1, 2), (3, 1), (4, 6), (10, 6)] := by kernel_rfl
theorem latom_spec {Z : Nat → Prop} {w0 w : World} {L : List Res} (st : St Z w0 w L) (k : Int) (p : ByteArray) : Calls Tryz.prog 58 #[(.int .i8 (k)), (.string p)] w (Ret fun r w' => r = .agg #[(.int .i8 k), (.string p), vn, (.int .i8 (0)), (.int .i8 (0)), ve, (.int .i8 (0)), (ii 0), ve, vn, (.int .i8 (0)), ve, (.int .i8 (0)), (ii 0), ve, vn] ∧ St Z w0 w' L) := by
 refine calls_of_WC (m := 9) (rs := [.cell 4 74]) Tryz.func58 rfl rfl rfl rfl ?_
 refine Wsr ?_
 refine W1 (OpT.alloc st (.agg #[(.int .i8 (0)), ve, vn, (.int .i8 (0)), (.int .i8 (0)), ve, (.int .i8 (0)), (ii 0), ve, vn, (.int .i8 (0)), ve, (.int .i8 (0)), (ii 0), ve, vn]) [(.int .i8 (0)), ve, vn, (.int .i8 (0)), (.int .i8 (0)), ve, (.int .i8 (0)), (ii 0), ve, vn, (.int .i8 (0)), ve, (.int .i8 (0)), (ii 0), ve, vn] tz74 rfl (fun b1 w2 st3 => ?_))
 refine Wns ?_
 refine W1 (OpT.move (.int .i8 (k)) rfl ?_)
 refine W1 (OpT.move (.string p) rfl ?_)
 refine W1 (OpT.build [(0, (.string p))] [(.string p), vn] tz62 tp62 (mp1 rfl) rfl ?_)
 refine W1 (OpT.build [(0, (.int .i8 (k))), (1, (.agg #[(.string p), vn]))] [(.int .i8 (k)), (.string p), vn, (.int .i8 (0)), (.int .i8 (0)), ve, (.int .i8 (0)), (ii 0), ve, vn, (.int .i8 (0)), ve, (.int .i8 (0)), (ii 0), ve, vn] tz74 tp74 (mp2 rfl rfl) rfl ?_)
 refine WL.stepN (OpT.storeA st3 0 16 [(.int .i8 (k)), (.string p), vn, (.int .i8 (0)), (.int .i8 (0)), ve, (.int .i8 (0)), (ii 0), ve, vn, (.int .i8 (0)), ve, (.int .i8 (0)), (ii 0), ve, vn] rfl ts74 rfl rfl rfl rfl rfl (fun w4 st5 => ?_))
 refine Wnt ?_
 refine WC.ret <| retQ.cell (.agg #[(.int .i8 (k)), (.string p), vn, (.int .i8 (0)), (.int .i8 (0)), ve, (.int .i8 (0)), (ii 0), ve, vn, (.int .i8 (0)), ve, (.int .i8 (0)), (ii 0), ve, vn]) ⟨b1, 0, none⟩ rfl (run_loadVarA ta74 ts74 (ad := ⟨b1, 0, none⟩) (cs := [(.int .i8 (k)), (.string p), vn, (.int .i8 (0)), (.int .i8 (0)), ve, (.int .i8 (0)), (ii 0), ve, vn, (.int .i8 (0)), ve, (.int .i8 (0)), (ii 0), ve, vn]) ((st5.rowB (i := 0) rfl).part 0 16) rfl) ?_
 exact ⟨_, rfl, rfl, (St.selT [Blk b1 74 [(.int .i8 (k)), (.string p), vn, (.int .i8 (0)), (.int .i8 (0)), ve, (.int .i8 (0)), (ii 0), ve, vn, (.int .i8 (0)), ve, (.int .i8 (0)), (ii 0), ve, vn]] [] rfl (by decide) st5)⟩

end Go.Ped
set_option linter.unusedVariables false
set_option maxRecDepth 20000
namespace Go.Ped
open Go Go.Eng Go.RowKit Go.Proofs

theorem tp133 : placesB Tryz.prog 133 = some [(0, 1), (1, 1)] := by kernel_rfl
theorem tz133 : zeroB Tryz.prog 133 = some (.agg #[(.slice none 0 0), (.map none)]) := by kernel_rfl
theorem tz136 : zeroB Tryz.prog 136 = some (.agg #[(.slice none 0 0)]) := by kernel_rfl
theorem cal69 : CallOk Tryz.prog 69 := ⟨⟨Tryz.f69, Tryz.func69, rfl, by decide⟩⟩
theorem cal70 : CallOk Tryz.prog 70 := ⟨⟨Tryz.f70, Tryz.func70, rfl, by decide⟩⟩
theorem cal71 : CallOk Tryz.prog 71 := ⟨⟨Tryz.f71, Tryz.func71, rfl, by decide⟩⟩
theorem tp142 : placesB Tryz.prog 142 = some [(0, 1), (1, 1), (2, 1), (3, 1)] := by kernel_rfl
theorem cal72 : CallOk Tryz.prog 72 := ⟨⟨Tryz.f72, Tryz.func72, rfl, by decide⟩⟩
def eqnOf (x : Ltr) : Eqn := ⟨loneF x.left, loneF x.right, addVars [] (expT x.left), addVars [] (expT x.right)⟩
def limStep (p : List Eqn × List ByteArray) (x : Ltr) : List Eqn × List ByteArray :=
  if x.kind = 1 then (p.1, addNews p.2 (addVars [] (atmT x.atom))) else if x.kind = 3 ∧ x.rel = 1 then (p.1 ++ [eqnOf x], p.2) else p
def limA (xs : List Ltr) : List Eqn × List ByteArray := xs.foldl limStep ([], [])
def limR : Nat → List Eqn → List ByteArray → List ByteArray
  | 0, _, l => l
  | n + 1, eqs, l => if ((rndF eqs l).1.length : Int) < (eqs.length : Int) then limR n (rndF eqs l).1 (rndF eqs l).2 else (rndF eqs l).2
def limF (xs : List Ltr) : List ByteArray := limR ((limA xs).1.length + 1) (limA xs).1 (limA xs).2
theorem lim_step {xs : List Ltr} {i : Nat} {x : Ltr} (hx : xs[i]? = some x) : limA (xs.take (i + 1)) = limStep (limA (xs.take i)) x := by
  rw [List.take_add_one, hx, limA, List.foldl_append]; rfl
theorem lim_pos {xs : List Ltr} {i : Nat} {x : Ltr} (hx : xs[i]? = some x) (h : x.kind = 1) : limA (xs.take (i + 1)) = ((limA (xs.take i)).1, addNews (limA (xs.take i)).2 (addVars [] (atmT x.atom))) := by
  rw [lim_step hx, limStep, if_pos h]
theorem lim_eqn {xs : List Ltr} {i : Nat} {x : Ltr} (hx : xs[i]? = some x) (h : ¬ x.kind = 1) (h2 : x.kind = 3 ∧ x.rel = 1) : limA (xs.take (i + 1)) = ((limA (xs.take i)).1 ++ [eqnOf x], (limA (xs.take i)).2) := by
  rw [lim_step hx, limStep, if_neg h, if_pos h2]
theorem lim_no {xs : List Ltr} {i : Nat} {x : Ltr} (hx : xs[i]? = some x) (h : ¬ x.kind = 1) (h2 : ¬ (x.kind = 3 ∧ x.rel = 1)) : limA (xs.take (i + 1)) = limA (xs.take i) := by
  rw [lim_step hx, limStep, if_neg h, if_neg h2]
theorem expT_pos (e : Exp) : 1 ≤ (expT e).length := by cases e; simp [expT]
theorem limA_len (xs : List Ltr) : (limA xs).1.length + (limA xs).2.length ≤ (xs.flatMap ltrT).length := by
  have : ∀ (xs : List Ltr) (p : List Eqn × List ByteArray), (xs.foldl limStep p).1.length + (xs.foldl limStep p).2.length ≤ p.1.length + p.2.length + (xs.flatMap ltrT).length := by
    intro xs
    induction xs with
    | nil => intro p; simp
    | cons x xs ih =>
      intro p
      have h1 := ih (limStep p x)
      have h2 : (limStep p x).1.length + (limStep p x).2.length ≤ p.1.length + p.2.length + (ltrT x).length := by
        have h3 := addNews_len p.2 (addVars [] (atmT x.atom))
        have h4 := addVars_len [] (atmT x.atom)
        have h5 := expT_pos x.left
        simp only [ltrT, List.length_append]
        simp only [List.length_nil] at h4
        unfold limStep
        split
        · simp only; omega
        · split
          · simp only [List.length_append, List.length_cons, List.length_nil]; omega
          · omega
      simp only [List.foldl_cons, List.flatMap_cons, List.length_append]
      omega
  simpa [limA] using this xs ([], [])
theorem rndF_sum (eqs : List Eqn) (l : List ByteArray) : (rndF eqs l).1.length + (rndF eqs l).2.length ≤ l.length + eqs.length := by
  have : ∀ (es : List Eqn × List ByteArray), (eqs.foldl rnd es).1.length + (eqs.foldl rnd es).2.length ≤ es.1.length + es.2.length + eqs.length := by
    induction eqs with
    | nil => intro es; simp
    | cons q qs ih =>
      intro es
      have h := ih (rnd es q)
      have h2 := takeL_len q es.2
      have h3 : (rnd es q).1.length + (rnd es q).2.length ≤ es.1.length + es.2.length + 1 := by
        unfold rnd
        split
        · simp only; omega
        · rename_i hb
          have e : takeL q es.2 = es.2 := by
            simp only [takeB, Bool.or_eq_true, not_or, Bool.not_eq_true] at hb
            rw [takeL, hb.1, hb.2]; rfl
          rw [e]; simp only [List.length_append, List.length_cons, List.length_nil]; omega
      simp only [List.foldl_cons, List.length_cons]; omega
  simpa [rndF] using this ([], l)
theorem limR_fuel : ∀ (n m : Nat) (eqs : List Eqn) (l : List ByteArray), eqs.length < n → eqs.length < m → limR n eqs l = limR m eqs l := by
  intro n
  induction n with
  | zero => intro m eqs l h; omega
  | succ n ih =>
    intro m eqs l h1 h2
    cases m with
    | zero => omega
    | succ m =>
      rw [limR, limR]
      split
      · exact ih m _ _ (by omega) (by omega)
      · rfl
theorem limR_go {eqs : List Eqn} {l : List ByteArray} (h : ((rndF eqs l).1.length : Int) < (eqs.length : Int)) : limR (eqs.length + 1) eqs l = limR ((rndF eqs l).1.length + 1) (rndF eqs l).1 (rndF eqs l).2 := by
  rw [limR, if_pos h]; exact limR_fuel _ _ _ _ (by omega) (by omega)
theorem limR_end {eqs : List Eqn} {l : List ByteArray} (h : ¬ ((rndF eqs l).1.length : Int) < (eqs.length : Int)) : limR (eqs.length + 1) eqs l = (rndF eqs l).2 := by
  rw [limR, if_neg h]
theorem flat_at {α β : Type} (f : α → List β) {xs : List α} {i : Nat} {x : α} (hx : xs[i]? = some x) : ((xs.take i).flatMap f).length + (f x).length ≤ (xs.flatMap f).length := by
  have h : xs = xs.take i ++ x :: xs.drop (i + 1) := by
    obtain ⟨h1, h2⟩ := List.getElem?_eq_some_iff.1 hx
    rw [← h2]; simp
  conv => rhs; rw [h]
  simp only [List.flatMap_append, List.flatMap_cons, List.length_append]; omega
/-- A found set, by the pointer to it. -/
def Fnd (r : Value) (l : List ByteArray) : Res := Ex fun p : Nat × Nat × Value => Pk (Fact (r = .pointer (some ⟨p.1, 0, none⟩)) :: FS p.1 p.2.1 p.2.2 l [])
theorem Fnd.open {Z : Nat → Prop} {w0 w : World} {L : List Res} {r : Value} {l : List ByteArray} (st : St Z w0 w (Fnd r l :: L)) : ∃ fb mb lv, r = .pointer (some ⟨fb, 0, none⟩) ∧ St Z w0 w (FS fb mb lv l L) := by
  obtain ⟨⟨fb, mb, lv⟩, st⟩ := st.ex
  have st := st.pk
  exact ⟨fb, mb, lv, st.fact (i := 0) rfl, st.tl⟩
theorem Fnd.shut {Z : Nat → Prop} {w0 w : World} {L : List Res} {fb mb : Nat} {lv : Value} {l : List ByteArray} (st : St Z w0 w (FS fb mb lv l L)) : St Z w0 w (Fnd (.pointer (some ⟨fb, 0, none⟩)) l :: L) :=
  St.exI (fb, mb, lv) (St.pkI (K := Fact _ :: FS fb mb lv l []) (St.factI rfl st))
theorem limits_spec {Z : Nat → Prop} {w0 w : World} {L : List Res} (st : St Z w0 w L) (v : Value) (xs : List Ltr) (hv : rLtr.sl Z w0 v xs) (hb : (xs.flatMap ltrT).length < 536870912) : Calls Tryz.prog 45 #[v] w (Ret fun r w' => r.oneCell' = true ∧ r.cells = #[r] ∧ St Z w0 w' (Fnd r (limF xs) :: L)) := by
 have hal0 := Rl.sl_le hv
 refine calls_of_WC (m := 57) (rs := [.tmp 2]) Tryz.func45 rfl rfl rfl rfl ?_
 refine Wsr ?_
 refine W1 (OpT.assign (.pointer none) rfl ?_)
 refine Wns ?_
 refine W1 (OpT.makeMap Value.string (Value.int .i64) st (fun b1 w2 st3 => ?_))
 refine W1 (OpT.build [(1, (.map (some b1)))] [vn, (.map (some b1))] tz133 tp133 (mp1 rfl) rfl ?_)
 refine W1 (OpT.box st3 (.agg #[vn, (.map (some b1))]) [vn, (.map (some b1))] rfl rfl (fun b4 w5 st6 => ?_))
 refine W1 (OpT.assign (pt b4 0) rfl ?_)
 refine Wns ?_
 refine W1 (OpT.alloc st6 (.agg #[vn]) [vn] tz136 rfl (fun b7 w8 st9 => ?_))
 refine Wnt ?_
 refine WC.seq ?_
 refine Wsr ?_
 refine W1 (OpT.move v rfl ?_)
 refine W1 (OpT.lenR rfl tu52 hv rfl ?_)
 refine W1 (OpT.move (ii 0) rfl ?_)
 refine Wnt ?_
 refine WC.block ?_
 obtain ⟨fb, rfl⟩ : ∃ x, x = b4 := ⟨_, rfl⟩
 obtain ⟨rb, rfl⟩ : ∃ x, x = b7 := ⟨_, rfl⟩
 obtain ⟨mb, rfl⟩ : ∃ x, x = b1 := ⟨_, rfl⟩
 have st10 : St Z w0 w8 (Row 142 4 vn 0 [] :: Row 9 1 vn 0 [] :: Blk rb 136 [vn] :: Blk fb 133 [vn, (.map (some mb))] :: (Mp Value.string (Value.int .i64) mb ([] : List (ByteArray × Int))) :: L) := ((st9).rowNil 9 1).rowNil 142 4
 have st11 : St Z w0 w8 (Blk rb 136 [vn] :: Row 142 4 vn 0 [] :: Blk fb 133 [vn, (.map (some mb))] :: Row 9 1 vn 0 [] :: (Mp Value.string (Value.int .i64) mb ([] : List (ByteArray × Int))) :: L) := St.selT [Row 142 4 vn 0 [], Row 9 1 vn 0 [], Blk rb 136 [vn], Blk fb 133 [vn, (.map (some mb))], (Mp Value.string (Value.int .i64) mb ([] : List (ByteArray × Int)))] [2, 0, 3, 1, 4] rfl (by decide) st10
 refine WC.loop (fun m ρ wz => ∃ (i : Nat), ∃ (Z1 : Nat → Prop), ∃ (w1 : World), ∃ (lv2 : Value), ∃ (lf : Value), ∃ (cs2 : List Value), m = xs.length - i ∧ i ≤ xs.length ∧ Ext Z w0 Z1 w1 ∧ RowsOf (rEqn.R Z1 w1) 4 cs2 (limA (xs.take i)).1 ∧ ρ 12 = (ni i) ∧ ρ 3 = (pt fb 0) ∧ ρ 4 = (pt rb 0) ∧ ρ 10 = v ∧ ρ 11 = (ni (xs.length)) ∧ St Z1 w1 wz (Blk rb 136 [lf] :: Row 142 4 lf (limA (xs.take i)).1.length cs2 :: Blk fb 133 [lv2, (.map (some mb))] :: Row 9 1 lv2 ((limA (xs.take i)).2).length (((limA (xs.take i)).2).map Value.string) :: Mp Value.string (Value.int .i64) mb (fm ((limA (xs.take i)).2)) :: L)) _ ⟨0, Z, w0, vn, vn, [], rfl, by omega, Ext.refl _ _, RowsOf.nil, rfl, rfl, rfl, rfl, rfl, st11⟩ ?_
 rintro m12 ρ13 w14 ⟨i, Z1, w1, lv2, lf, cs2, hm22, hp16, hxx, HR, hs17, hs18, hs19, hs20, hs21, st15⟩
 have hv1 := hxx.sl hv
 have olv2 := st15.rowOne (i := 3) rfl
 have clv2 := st15.rowCel (i := 3) rfl
 have olf := st15.rowOne (i := 1) rfl
 have clf := st15.rowCel (i := 1) rfl
 have hal := limA_len (xs.take i)
 refine Wsr ?_
 refine W1 (OpT.ilt .i64 (((i : Nat) : Int)) (((xs.length : Nat) : Int)) hs17 hs21 ?_)
 refine Wnt ?_
 refine WC.seq ?_
 refine WC.condP (((i : Nat) : Int) < ((xs.length : Nat) : Int)) rfl (fun h23 => ?_) (fun h23 => ?_)
 ·refine WC.skip ?_
  refine thenQ_n ?_
  refine WC.seq ?_
  refine WC.block ?_
  refine Wsr ?_
  obtain ⟨x24, hx24⟩ : ∃ x, (xs)[i]? = some x := ⟨_, List.getElem?_eq_getElem (by omega)⟩
  refine W1 (OpT.idxX tu52 ts74 hv1 hs20 .i64 (i) hs17 hx24 (fun ad25 cs26 hr27 hR28 => ?_))
  have hR28c := hR28
  obtain ⟨av29, lk30, rk31, rfl, ha32, hl33, hr34⟩ := hR28
  refine W1 (OpT.loadA ad25 16 [(.int .i8 (x24.kind)), (.string x24.atom.pred), av29, (.int .i8 (x24.rel)), (.int .i8 (x24.left.op)), (.string x24.left.term.var), (.int .i8 (x24.left.term.val.kind)), (.int .i64 (x24.left.term.val.num)), (.string x24.left.term.val.text), lk30, (.int .i8 (x24.right.op)), (.string x24.right.term.var), (.int .i8 (x24.right.term.val.kind)), (.int .i64 (x24.right.term.val.num)), (.string x24.right.term.val.text), rk31] ta74 ts74 rfl ((hr27.at st15).part 0 16) rfl ?_)
  refine W1 (OpT.alloc st15 (.agg #[(.int .i8 (0)), ve, vn, (.int .i8 (0)), (.int .i8 (0)), ve, (.int .i8 (0)), (ii 0), ve, vn, (.int .i8 (0)), ve, (.int .i8 (0)), (ii 0), ve, vn]) [(.int .i8 (0)), ve, vn, (.int .i8 (0)), (.int .i8 (0)), ve, (.int .i8 (0)), (ii 0), ve, vn, (.int .i8 (0)), ve, (.int .i8 (0)), (ii 0), ve, vn] tz74 rfl (fun b35 w36 st37 => ?_))
  refine WL.stepN (OpT.storeA st37 0 16 [(.int .i8 (x24.kind)), (.string x24.atom.pred), av29, (.int .i8 (x24.rel)), (.int .i8 (x24.left.op)), (.string x24.left.term.var), (.int .i8 (x24.left.term.val.kind)), (.int .i64 (x24.left.term.val.num)), (.string x24.left.term.val.text), lk30, (.int .i8 (x24.right.op)), (.string x24.right.term.var), (.int .i8 (x24.right.term.val.kind)), (.int .i64 (x24.right.term.val.num)), (.string x24.right.term.val.text), rk31] rfl ts74 rfl rfl (aC rfl (aC rfl (aC (Rl.sl_one ha32) (aC rfl (aC rfl (aC rfl (aC rfl (aC rfl (aC rfl (aC (Rl.sl_one hl33) (aC rfl (aC rfl (aC rfl (aC rfl (aC rfl (aC (Rl.sl_one hr34) aN)))))))))))))))) rfl rfl (fun w38 st39 => ?_))
  refine Wnt ?_
  have hfl := flat_at ltrT hx24
  have hfa := addVars_len [] (atmT x24.atom)
  have hfb := addVars_len [] (expT x24.left)
  have hfc := addVars_len [] (expT x24.right)
  simp only [ltrT, List.length_append, List.length_nil] at hfl hfa hfb hfc
  refine WC.block ?_
  refine Wsr ?_
  refine W1 (OpT.field 0 ⟨b35, 0, none⟩ ⟨b35, 0, none⟩ tf74_0 rfl rfl ?_)
  refine W1 (OpT.loadS ⟨b35, 0, none⟩ (.int .i8 (x24.kind)) ta59 rfl (st39.cellB (i := 0) rfl rfl) ?_)
  refine W1 (OpT.ieq .i8 (x24.kind) (1) rfl rfl ?_)
  refine W1 (OpT.assign (.bool (decide (x24.kind = 1))) rfl ?_)
  refine Wnt ?_
  refine WC.condP (x24.kind = 1) rfl (fun h40 => ?_) (fun h40 => ?_)
  ·refine WC.region ?_
   refine W1 (OpT.move (pt fb 0) hs18 ?_)
   refine W1 (OpT.field 1 ⟨b35, 0, none⟩ ⟨b35, 1, none⟩ tf74_1 rfl rfl ?_)
   refine W1 (OpT.loadA ⟨b35, 1, none⟩ 2 [(.string x24.atom.pred), av29] ta62 ts62 rfl ((st39.rowB (i := 0) rfl).part 1 2) rfl ?_)
   refine W1 (OpT.callS cal69 [] [] [(.agg #[(.string x24.atom.pred), av29])] rfl (ca1 rfl) (AtomVars_spec st39 x24.atom (by omega) _ ha32) ?_)
   rintro v43 w44 st45
   have o41 := st45.rowOne (i := 0) rfl
   have c42 := st45.rowCel (i := 0) rfl
   obtain ⟨Z46, hz47, hw48, hr49, st51, bk50⟩ := St.freezeStr ((St.selT [Row 9 1 v43 (addVars [] (atmT x24.atom)).length ((addVars [] (atmT x24.atom)).map Value.string), Blk b35 74 [(.int .i8 (x24.kind)), (.string x24.atom.pred), av29, (.int .i8 (x24.rel)), (.int .i8 (x24.left.op)), (.string x24.left.term.var), (.int .i8 (x24.left.term.val.kind)), (.int .i64 (x24.left.term.val.num)), (.string x24.left.term.val.text), lk30, (.int .i8 (x24.right.op)), (.string x24.right.term.var), (.int .i8 (x24.right.term.val.kind)), (.int .i64 (x24.right.term.val.num)), (.string x24.right.term.val.text), rk31], Blk rb 136 [lf], Row 142 4 lf (limA (xs.take i)).1.length cs2, Blk fb 133 [lv2, (.map (some mb))], Row 9 1 lv2 ((limA (xs.take i)).2).length (((limA (xs.take i)).2).map Value.string), Mp Value.string (Value.int .i64) mb (fm ((limA (xs.take i)).2))] [0, 4, 5, 6, 1, 2, 3] rfl (by decide) st45) : St Z1 w1 w44 (Row 9 1 v43 (addVars [] (atmT x24.atom)).length ((addVars [] (atmT x24.atom)).map Value.string) :: Blk fb 133 [lv2, (.map (some mb))] :: Row 9 1 lv2 ((limA (xs.take i)).2).length (((limA (xs.take i)).2).map Value.string) :: Mp Value.string (Value.int .i64) mb (fm ((limA (xs.take i)).2)) :: Blk b35 74 [(.int .i8 (x24.kind)), (.string x24.atom.pred), av29, (.int .i8 (x24.rel)), (.int .i8 (x24.left.op)), (.string x24.left.term.var), (.int .i8 (x24.left.term.val.kind)), (.int .i64 (x24.left.term.val.num)), (.string x24.left.term.val.text), lk30, (.int .i8 (x24.right.op)), (.string x24.right.term.var), (.int .i8 (x24.right.term.val.kind)), (.int .i64 (x24.right.term.val.num)), (.string x24.right.term.val.text), rk31] :: Blk rb 136 [lf] :: Row 142 4 lf (limA (xs.take i)).1.length cs2 :: L)) (by omega)
   refine W1 (OpT.callS cal68 [] [] [(pt fb 0), v43] rfl (ca2 rfl rfl) (add_spec st51 _ (addVars [] (atmT x24.atom)) hr49 (by omega)) ?_)
   rintro v55 w56 ⟨rfl, lv52, st57⟩
   replace st57 := bk50 _ _ st57
   have o53 := st57.rowOne (i := 2) rfl
   have c54 := st57.rowCel (i := 2) rfl
   refine WL.nil ?_
   refine blkQ_n ?_
   refine blkQ_n ?_
   refine thenQ_n ?_
   refine WC.region ?_
   refine W1 (OpT.iadd .i64 (((i : Nat) : Int)) (1) (((i + 1 : Nat) : Int)) hs17 rfl (wadd (a := i) (b := 1) (by omega)) ?_)
   refine W1 (OpT.move (ni (i + 1)) rfl ?_)
   refine WL.nil ?_
   have e59 := lim_pos hx24 h40
   have st58 : St Z1 w1 w56 (Blk rb 136 [lf] :: Row 142 4 lf (limA (xs.take (i + 1))).1.length cs2 :: Blk fb 133 [lv52, (.map (some mb))] :: Row 9 1 lv52 ((limA (xs.take (i + 1))).2).length (((limA (xs.take (i + 1))).2).map Value.string) :: Mp Value.string (Value.int .i64) mb (fm ((limA (xs.take (i + 1))).2)) :: L) := by rw [e59]; exact (St.selT [Row 9 1 v43 (addVars [] (atmT x24.atom)).length ((addVars [] (atmT x24.atom)).map Value.string), Blk fb 133 [lv52, (.map (some mb))], Row 9 1 lv52 (addNews ((limA (xs.take i)).2) (addVars [] (atmT x24.atom))).length ((addNews ((limA (xs.take i)).2) (addVars [] (atmT x24.atom))).map Value.string), Mp Value.string (Value.int .i64) mb (fm (addNews ((limA (xs.take i)).2) (addVars [] (atmT x24.atom)))), Blk b35 74 [(.int .i8 (x24.kind)), (.string x24.atom.pred), av29, (.int .i8 (x24.rel)), (.int .i8 (x24.left.op)), (.string x24.left.term.var), (.int .i8 (x24.left.term.val.kind)), (.int .i64 (x24.left.term.val.num)), (.string x24.left.term.val.text), lk30, (.int .i8 (x24.right.op)), (.string x24.right.term.var), (.int .i8 (x24.right.term.val.kind)), (.int .i64 (x24.right.term.val.num)), (.string x24.right.term.val.text), rk31], Blk rb 136 [lf], Row 142 4 lf (limA (xs.take i)).1.length cs2] [5, 6, 1, 2, 3] rfl (by decide) st57)
   exact loopQ_n _ (by omega) ⟨i + 1, Z1, w1, lv52, lf, cs2, rfl, by omega, hxx, by rw [e59]; exact HR, rfl, hs18, hs19, hs20, hs21, st58⟩
  refine Wsr ?_
  refine W1 (OpT.field 0 ⟨b35, 0, none⟩ ⟨b35, 0, none⟩ tf74_0 rfl rfl ?_)
  refine W1 (OpT.loadS ⟨b35, 0, none⟩ (.int .i8 (x24.kind)) ta59 rfl (st39.cellB (i := 0) rfl rfl) ?_)
  refine W1 (OpT.ieq .i8 (x24.kind) (3) rfl rfl ?_)
  refine W1 (OpT.move (.bool (decide (x24.kind = 3))) rfl ?_)
  by_cases h60 : x24.kind = 3
  ·refine W2 (dj := 29) (bT h60) (OpT.field 3 ⟨b35, 0, none⟩ ⟨b35, 3, none⟩ tf74_2 rfl rfl ?_)
   refine W2 (dj := 29) (bT h60) (OpT.loadS ⟨b35, 3, none⟩ (.int .i8 (x24.rel)) ta63 rfl (st39.cellB (i := 0) rfl rfl) ?_)
   refine W2 (dj := 29) (bT h60) (OpT.ieq .i8 (x24.rel) (1) rfl rfl ?_)
   refine W1 (OpT.pickT (.bool (decide (x24.rel = 1))) (bT h60) rfl ?_)
   refine W1 (OpT.assign (.bool (decide (x24.rel = 1))) rfl ?_)
   refine Wnt ?_
   refine WC.condP (x24.rel = 1) rfl (fun h61 => ?_) (fun h61 => ?_)
   ·refine WC.drawV2 16 (fun jj vals vv => match jj with | 0 => vv = (pt rb 0) | 1 => vv = lf | 2 => vv = (pt b35 4) | 3 => vv = (.agg #[(.int .i8 (x24.left.op)), (.string x24.left.term.var), (.int .i8 (x24.left.term.val.kind)), (.int .i64 (x24.left.term.val.num)), (.string x24.left.term.val.text), lk30]) | 4 => vv = (.string (loneF x24.left)) | 5 => vv = (pt b35 10) | 6 => vv = (.agg #[(.int .i8 (x24.right.op)), (.string x24.right.term.var), (.int .i8 (x24.right.term.val.kind)), (.int .i64 (x24.right.term.val.num)), (.string x24.right.term.val.text), rk31]) | 7 => vv = (.string (loneF x24.right)) | 8 => vv = (pt b35 4) | 9 => vv = (.agg #[(.int .i8 (x24.left.op)), (.string x24.left.term.var), (.int .i8 (x24.left.term.val.kind)), (.int .i64 (x24.left.term.val.num)), (.string x24.left.term.val.text), lk30]) | 10 => vv.oneCell' = true ∧ vv.cells = #[vv] | 11 => vv = (pt b35 10) | 12 => vv = (.agg #[(.int .i8 (x24.right.op)), (.string x24.right.term.var), (.int .i8 (x24.right.term.val.kind)), (.int .i64 (x24.right.term.val.num)), (.string x24.right.term.val.text), rk31]) | 13 => vv.oneCell' = true ∧ vv.cells = #[vv] | 14 => vv = (.agg #[(.string (loneF x24.left)), (.string (loneF x24.right)), (vals 10), (vals 13)]) | 15 => vv = (.slice (some ⟨(bk vv), 0, none⟩) 1 1) | _ => True) (fun jj vals vv => match jj with | 10 => [Row 9 1 vv (addVars [] (expT x24.left)).length ((addVars [] (expT x24.left)).map Value.string)] | 13 => [Row 9 1 vv (addVars [] (expT x24.right)).length ((addVars [] (expT x24.right)).map Value.string)] | 15 => [Blk (bk vv) 142 [(.string (loneF x24.left)), (.string (loneF x24.right)), (vals 10), (vals 13)]] | _ => []) st39 fmix (by kernel_rfl) ((obS (obS (obS (obS (obS (obS (obS (obS (obS (obS (obS (obS (obS (obS (obS (obS ob0 (fun aa bb vv h hf => hf)) (fun aa bb vv h hf => hf)) (fun aa bb vv h hf => hf)) (fun aa bb vv h hf => hf)) (fun aa bb vv h hf => hf)) (fun aa bb vv h hf => hf)) (fun aa bb vv h hf => hf)) (fun aa bb vv h hf => hf)) (fun aa bb vv h hf => hf)) (fun aa bb vv h hf => hf)) (fun aa bb vv h hf => hf)) (fun aa bb vv h hf => hf)) (fun aa bb vv h hf => hf)) (fun aa bb vv h hf => hf)) (fun aa bb vv h hf => by have hf : vv = (.agg #[(.string (loneF x24.left)), (.string (loneF x24.right)), (aa 10), (aa 13)]) := hf; rw [show aa 10 = bb 10 from h 10 rfl] at hf; rw [show aa 13 = bb 13 from h 13 rfl] at hf; exact hf)) (fun aa bb vv h hf => hf))) ((obS (obS (obS (obS (obS (obS (obS (obS (obS (obS (obS (obS (obS (obS (obS (obS ob0 (fun aa bb vv h => rfl)) (fun aa bb vv h => rfl)) (fun aa bb vv h => rfl)) (fun aa bb vv h => rfl)) (fun aa bb vv h => rfl)) (fun aa bb vv h => rfl)) (fun aa bb vv h => rfl)) (fun aa bb vv h => rfl)) (fun aa bb vv h => rfl)) (fun aa bb vv h => rfl)) (fun aa bb vv h => rfl)) (fun aa bb vv h => rfl)) (fun aa bb vv h => rfl)) (fun aa bb vv h => rfl)) (fun aa bb vv h => rfl)) (fun aa bb vv h => by show [Blk (bk vv) 142 [(.string (loneF x24.left)), (.string (loneF x24.right)), (aa 10), (aa 13)]] = [Blk (bk vv) 142 [(.string (loneF x24.left)), (.string (loneF x24.right)), (bb 10), (bb 13)]]; rw [show aa 10 = bb 10 from h 10 rfl, show aa 13 = bb 13 from h 13 rfl]))) ((obS (obS (obS (obS (obS (obS (obS (obS (obS (obS (obS (obS (obS (obS (obS (obS ob0 ?_) ?_) ?_) ?_) ?_) ?_) ?_) ?_) ?_) ?_) ?_) ?_) ?_) ?_) ?_) ?_)) ?_
    ·intro vals ρ w63 X hd h0 st62
     have e64 : ρ 4 = (pt rb 0) := (h0 4 rfl).trans hs19
     refine W1 (OpT.field 0 ⟨rb, 0, none⟩ ⟨rb, 0, none⟩ tf136_0 e64 rfl ?_)
     refine WL.nil ?_
     exact oneQ.mk ⟨rfl, st62⟩
    ·intro vals ρ w66 X hd h0 st65
     have e67 : ρ 34 = (pt rb 0) := ((hd 0 rfl).2 34 rfl).trans (hd 0 rfl).1
     refine W1 (OpT.loadS ⟨rb, 0, none⟩ lf ta134 e67 (st65.cellB (i := 1) rfl rfl) ?_)
     refine WL.nil ?_
     exact oneQ.mk ⟨rfl, st65⟩
    ·intro vals ρ w69 X hd h0 st68
     have e70 : ρ 6 = (pt b35 0) := (h0 6 rfl).trans rfl
     refine W1 (OpT.field 4 ⟨b35, 0, none⟩ ⟨b35, 4, none⟩ tf74_3 e70 rfl ?_)
     refine WL.nil ?_
     exact oneQ.mk ⟨rfl, st68⟩
    ·intro vals ρ w72 X hd h0 st71
     have e73 : ρ 36 = (pt b35 4) := ((hd 2 rfl).2 36 rfl).trans (hd 2 rfl).1
     refine W1 (OpT.loadA ⟨b35, 4, none⟩ 6 [(.int .i8 (x24.left.op)), (.string x24.left.term.var), (.int .i8 (x24.left.term.val.kind)), (.int .i64 (x24.left.term.val.num)), (.string x24.left.term.val.text), lk30] ta72 ts72 e73 ((st71.rowB (i := 0) rfl).part 4 6) rfl ?_)
     refine WL.nil ?_
     exact oneQ.mk ⟨rfl, st71⟩
    ·intro vals ρ w75 X hd h0 st74
     have e76 : ρ 37 = (.agg #[(.int .i8 (x24.left.op)), (.string x24.left.term.var), (.int .i8 (x24.left.term.val.kind)), (.int .i64 (x24.left.term.val.num)), (.string x24.left.term.val.text), lk30]) := ((hd 3 rfl).2 37 rfl).trans (hd 3 rfl).1
     refine W1 (OpT.callS cal70 [] [] [(.agg #[(.int .i8 (x24.left.op)), (.string x24.left.term.var), (.int .i8 (x24.left.term.val.kind)), (.int .i64 (x24.left.term.val.num)), (.string x24.left.term.val.text), lk30])] rfl (ca1 e76) (lone_spec st74 x24.left _ hl33) ?_)
     rintro v77 w78 ⟨rfl, st79⟩
     refine WL.nil ?_
     exact oneQ.mk ⟨rfl, st79⟩
    ·intro vals ρ w81 X hd h0 st80
     have e82 : ρ 6 = (pt b35 0) := (h0 6 rfl).trans rfl
     refine W1 (OpT.field 10 ⟨b35, 0, none⟩ ⟨b35, 10, none⟩ tf74_4 e82 rfl ?_)
     refine WL.nil ?_
     exact oneQ.mk ⟨rfl, st80⟩
    ·intro vals ρ w84 X hd h0 st83
     have e85 : ρ 39 = (pt b35 10) := ((hd 5 rfl).2 39 rfl).trans (hd 5 rfl).1
     refine W1 (OpT.loadA ⟨b35, 10, none⟩ 6 [(.int .i8 (x24.right.op)), (.string x24.right.term.var), (.int .i8 (x24.right.term.val.kind)), (.int .i64 (x24.right.term.val.num)), (.string x24.right.term.val.text), rk31] ta72 ts72 e85 ((st83.rowB (i := 0) rfl).part 10 6) rfl ?_)
     refine WL.nil ?_
     exact oneQ.mk ⟨rfl, st83⟩
    ·intro vals ρ w87 X hd h0 st86
     have e88 : ρ 40 = (.agg #[(.int .i8 (x24.right.op)), (.string x24.right.term.var), (.int .i8 (x24.right.term.val.kind)), (.int .i64 (x24.right.term.val.num)), (.string x24.right.term.val.text), rk31]) := ((hd 6 rfl).2 40 rfl).trans (hd 6 rfl).1
     refine W1 (OpT.callS cal70 [] [] [(.agg #[(.int .i8 (x24.right.op)), (.string x24.right.term.var), (.int .i8 (x24.right.term.val.kind)), (.int .i64 (x24.right.term.val.num)), (.string x24.right.term.val.text), rk31])] rfl (ca1 e88) (lone_spec st86 x24.right _ hr34) ?_)
     rintro v89 w90 ⟨rfl, st91⟩
     refine WL.nil ?_
     exact oneQ.mk ⟨rfl, st91⟩
    ·intro vals ρ w93 X hd h0 st92
     have e94 : ρ 6 = (pt b35 0) := (h0 6 rfl).trans rfl
     refine W1 (OpT.field 4 ⟨b35, 0, none⟩ ⟨b35, 4, none⟩ tf74_3 e94 rfl ?_)
     refine WL.nil ?_
     exact oneQ.mk ⟨rfl, st92⟩
    ·intro vals ρ w96 X hd h0 st95
     have e97 : ρ 42 = (pt b35 4) := ((hd 8 rfl).2 42 rfl).trans (hd 8 rfl).1
     refine W1 (OpT.loadA ⟨b35, 4, none⟩ 6 [(.int .i8 (x24.left.op)), (.string x24.left.term.var), (.int .i8 (x24.left.term.val.kind)), (.int .i64 (x24.left.term.val.num)), (.string x24.left.term.val.text), lk30] ta72 ts72 e97 ((st95.rowB (i := 0) rfl).part 4 6) rfl ?_)
     refine WL.nil ?_
     exact oneQ.mk ⟨rfl, st95⟩
    ·intro vals ρ w99 X hd h0 st98
     have e100 : ρ 43 = (.agg #[(.int .i8 (x24.left.op)), (.string x24.left.term.var), (.int .i8 (x24.left.term.val.kind)), (.int .i64 (x24.left.term.val.num)), (.string x24.left.term.val.text), lk30]) := ((hd 9 rfl).2 43 rfl).trans (hd 9 rfl).1
     refine W1 (OpT.callS cal71 [] [] [(.agg #[(.int .i8 (x24.left.op)), (.string x24.left.term.var), (.int .i8 (x24.left.term.val.kind)), (.int .i64 (x24.left.term.val.num)), (.string x24.left.term.val.text), lk30])] rfl (ca1 e100) (ExprVars_spec st98 x24.left (by omega) _ hl33) ?_)
     rintro v103 w104 st105
     have o101 := st105.rowOne (i := 0) rfl
     have c102 := st105.rowCel (i := 0) rfl
     refine WL.nil ?_
     exact oneQ.mk ⟨⟨o101, c102⟩, st105⟩
    ·intro vals ρ w107 X hd h0 st106
     have e108 : ρ 6 = (pt b35 0) := (h0 6 rfl).trans rfl
     refine W1 (OpT.field 10 ⟨b35, 0, none⟩ ⟨b35, 10, none⟩ tf74_4 e108 rfl ?_)
     refine WL.nil ?_
     exact oneQ.mk ⟨rfl, st106⟩
    ·intro vals ρ w110 X hd h0 st109
     have e111 : ρ 45 = (pt b35 10) := ((hd 11 rfl).2 45 rfl).trans (hd 11 rfl).1
     refine W1 (OpT.loadA ⟨b35, 10, none⟩ 6 [(.int .i8 (x24.right.op)), (.string x24.right.term.var), (.int .i8 (x24.right.term.val.kind)), (.int .i64 (x24.right.term.val.num)), (.string x24.right.term.val.text), rk31] ta72 ts72 e111 ((st109.rowB (i := 0) rfl).part 10 6) rfl ?_)
     refine WL.nil ?_
     exact oneQ.mk ⟨rfl, st109⟩
    ·intro vals ρ w113 X hd h0 st112
     have e114 : ρ 46 = (.agg #[(.int .i8 (x24.right.op)), (.string x24.right.term.var), (.int .i8 (x24.right.term.val.kind)), (.int .i64 (x24.right.term.val.num)), (.string x24.right.term.val.text), rk31]) := ((hd 12 rfl).2 46 rfl).trans (hd 12 rfl).1
     refine W1 (OpT.callS cal71 [] [] [(.agg #[(.int .i8 (x24.right.op)), (.string x24.right.term.var), (.int .i8 (x24.right.term.val.kind)), (.int .i64 (x24.right.term.val.num)), (.string x24.right.term.val.text), rk31])] rfl (ca1 e114) (ExprVars_spec st112 x24.right (by omega) _ hr34) ?_)
     rintro v117 w118 st119
     have o115 := st119.rowOne (i := 0) rfl
     have c116 := st119.rowCel (i := 0) rfl
     refine WL.nil ?_
     exact oneQ.mk ⟨⟨o115, c116⟩, st119⟩
    ·intro vals ρ w121 X hd h0 st120
     have e122 : ρ 38 = (.string (loneF x24.left)) := ((hd 4 rfl).2 38 rfl).trans (hd 4 rfl).1
     have e123 : ρ 41 = (.string (loneF x24.right)) := ((hd 7 rfl).2 41 rfl).trans (hd 7 rfl).1
     have o125 : (vals 10).oneCell' = true := (hd 10 rfl).1.1
     have c126 : (vals 10).cells = #[vals 10] := (hd 10 rfl).1.2
     have e124 : ρ 44 = (vals 10) := ((hd 10 rfl).2 44 rfl)
     have o128 : (vals 13).oneCell' = true := (hd 13 rfl).1.1
     have c129 : (vals 13).cells = #[vals 13] := (hd 13 rfl).1.2
     have e127 : ρ 47 = (vals 13) := ((hd 13 rfl).2 47 rfl)
     refine W1 (OpT.build [(0, (.string (loneF x24.left))), (1, (.string (loneF x24.right))), (2, (vals 10)), (3, (vals 13))] [(.string (loneF x24.left)), (.string (loneF x24.right)), (vals 10), (vals 13)] tz142 tp142 (mp4 e122 e123 e124 e127) (by simp [Instr.fill, c126, c129, Value.cells.eq_2, show ∀ cs, (Value.agg cs).cells = cs from fun _ => rfl]) ?_)
     refine WL.nil ?_
     exact oneQ.mk ⟨rfl, st120⟩
    ·intro vals ρ w131 X hd h0 st130
     have o133 : (vals 10).oneCell' = true := (hd 10 rfl).1.1
     have c134 : (vals 10).cells = #[vals 10] := (hd 10 rfl).1.2
     have o135 : (vals 13).oneCell' = true := (hd 13 rfl).1.1
     have c136 : (vals 13).cells = #[vals 13] := (hd 13 rfl).1.2
     have e132 : ρ 48 = (.agg #[(.string (loneF x24.left)), (.string (loneF x24.right)), (vals 10), (vals 13)]) := ((hd 14 rfl).2 48 rfl).trans (hd 14 rfl).1
     refine W1 (OpT.buildSlice st130 [(0, (.agg #[(.string (loneF x24.left)), (.string (loneF x24.right)), (vals 10), (vals 13)]))] [(.string (loneF x24.left)), (.string (loneF x24.right)), (vals 10), (vals 13)] tu134 ts142 tz142 (mp1 e132) (by kernel_rfl) (by decide) (fun b137 w138 st139 => ?_))
     refine WL.nil ?_
     exact oneQ.mk ⟨rfl, st139⟩
    intro vals ρ142 w141 hv h0 st140
    replace st140 : St Z1 w1 w141 (Row 9 1 (vals 10) (addVars [] (expT x24.left)).length ((addVars [] (expT x24.left)).map Value.string) :: Row 9 1 (vals 13) (addVars [] (expT x24.right)).length ((addVars [] (expT x24.right)).map Value.string) :: Blk (bk (vals 15)) 142 [(.string (loneF x24.left)), (.string (loneF x24.right)), (vals 10), (vals 13)] :: Blk b35 74 [(.int .i8 (x24.kind)), (.string x24.atom.pred), av29, (.int .i8 (x24.rel)), (.int .i8 (x24.left.op)), (.string x24.left.term.var), (.int .i8 (x24.left.term.val.kind)), (.int .i64 (x24.left.term.val.num)), (.string x24.left.term.val.text), lk30, (.int .i8 (x24.right.op)), (.string x24.right.term.var), (.int .i8 (x24.right.term.val.kind)), (.int .i64 (x24.right.term.val.num)), (.string x24.right.term.val.text), rk31] :: Blk rb 136 [lf] :: Row 142 4 lf (limA (xs.take i)).1.length cs2 :: Blk fb 133 [lv2, (.map (some mb))] :: Row 9 1 lv2 ((limA (xs.take i)).2).length (((limA (xs.take i)).2).map Value.string) :: Mp Value.string (Value.int .i64) mb (fm ((limA (xs.take i)).2)) :: L) := st140
    have e143 : ρ142 3 = (pt fb 0) := (h0 3 rfl).trans hs18
    have e144 : ρ142 4 = (pt rb 0) := (h0 4 rfl).trans hs19
    have e145 : ρ142 10 = v := (h0 10 rfl).trans hs20
    have e146 : ρ142 11 = (ni (xs.length)) := (h0 11 rfl).trans hs21
    have e147 : ρ142 12 = (ni i) := (h0 12 rfl).trans hs17
    have e148 : ρ142 35 = lf := ((hv 1 rfl).2 35 rfl).trans (hv 1 rfl).1
    have o149 : (vals 10).oneCell' = true := (hv 10 rfl).1.1
    have c150 : (vals 10).cells = #[vals 10] := (hv 10 rfl).1.2
    have o151 : (vals 13).oneCell' = true := (hv 13 rfl).1.1
    have c152 : (vals 13).cells = #[vals 13] := (hv 13 rfl).1.2
    have e153 : ρ142 49 = (.slice (some ⟨(bk (vals 15)), 0, none⟩) 1 1) := ((hv 15 rfl).2 49 rfl).trans (hv 15 rfl).1
    have o154 : (vals 10).oneCell' = true := (hv 10 rfl).1.1
    have c155 : (vals 10).cells = #[vals 10] := (hv 10 rfl).1.2
    have o156 : (vals 13).oneCell' = true := (hv 13 rfl).1.1
    have c157 : (vals 13).cells = #[vals 13] := (hv 13 rfl).1.2
    clear hv h0
    generalize bk (vals 15) = b158 at *
    generalize vals 10 = v159 at *
    generalize vals 13 = v160 at *
    have st161 : St Z1 w1 w141 (Blk b158 142 [(.string (loneF x24.left)), (.string (loneF x24.right)), v159, v160] :: Row 142 4 lf (limA (xs.take i)).1.length cs2 :: Row 9 1 v159 (addVars [] (expT x24.left)).length ((addVars [] (expT x24.left)).map Value.string) :: Row 9 1 v160 (addVars [] (expT x24.right)).length ((addVars [] (expT x24.right)).map Value.string) :: Blk b35 74 [(.int .i8 (x24.kind)), (.string x24.atom.pred), av29, (.int .i8 (x24.rel)), (.int .i8 (x24.left.op)), (.string x24.left.term.var), (.int .i8 (x24.left.term.val.kind)), (.int .i64 (x24.left.term.val.num)), (.string x24.left.term.val.text), lk30, (.int .i8 (x24.right.op)), (.string x24.right.term.var), (.int .i8 (x24.right.term.val.kind)), (.int .i64 (x24.right.term.val.num)), (.string x24.right.term.val.text), rk31] :: Blk rb 136 [lf] :: Blk fb 133 [lv2, (.map (some mb))] :: Row 9 1 lv2 ((limA (xs.take i)).2).length (((limA (xs.take i)).2).map Value.string) :: Mp Value.string (Value.int .i64) mb (fm ((limA (xs.take i)).2)) :: L) := St.selT [Row 9 1 v159 (addVars [] (expT x24.left)).length ((addVars [] (expT x24.left)).map Value.string), Row 9 1 v160 (addVars [] (expT x24.right)).length ((addVars [] (expT x24.right)).map Value.string), Blk b158 142 [(.string (loneF x24.left)), (.string (loneF x24.right)), v159, v160], Blk b35 74 [(.int .i8 (x24.kind)), (.string x24.atom.pred), av29, (.int .i8 (x24.rel)), (.int .i8 (x24.left.op)), (.string x24.left.term.var), (.int .i8 (x24.left.term.val.kind)), (.int .i64 (x24.left.term.val.num)), (.string x24.left.term.val.text), lk30, (.int .i8 (x24.right.op)), (.string x24.right.term.var), (.int .i8 (x24.right.term.val.kind)), (.int .i64 (x24.right.term.val.num)), (.string x24.right.term.val.text), rk31], Blk rb 136 [lf], Row 142 4 lf (limA (xs.take i)).1.length cs2, Blk fb 133 [lv2, (.map (some mb))], Row 9 1 lv2 ((limA (xs.take i)).2).length (((limA (xs.take i)).2).map Value.string), Mp Value.string (Value.int .i64) mb (fm ((limA (xs.take i)).2))] [2, 5, 0, 1, 3, 4, 6, 7, 8] rfl (by decide) st140
    refine W1 (OpT.append st161 1 tu134 ts142 tz142 rfl tb142 (by decide) e148 e153 rfl (aC rfl (aC rfl (aC o154 (aC o156 aN)))) (by omega) (by omega) (fun v162 w163 st164 hn165 => ?_))
    have o166 := st164.rowOne (i := 0) rfl
    have c167 := st164.rowCel (i := 0) rfl
    refine W1 (OpT.field 0 ⟨rb, 0, none⟩ ⟨rb, 0, none⟩ tf136_0 e144 rfl ?_)
    refine WL.stepN (OpT.storeS st164 4 v162 rfl ts134 rfl rfl o166 c167 rfl (fun w168 st169 => ?_))
    refine WL.nil ?_
    refine blkQ_n ?_
    refine blkQ_n ?_
    refine thenQ_n ?_
    refine WC.region ?_
    refine W1 (OpT.iadd .i64 (((i : Nat) : Int)) (1) (((i + 1 : Nat) : Int)) e147 rfl (wadd (a := i) (b := 1) (by omega)) ?_)
    refine W1 (OpT.move (ni (i + 1)) rfl ?_)
    refine WL.nil ?_
    have e171 := lim_eqn hx24 h40 (by omega)
    obtain ⟨Z174, hx176, g172, st178⟩ := St.freezeRow (r := rStr) ((St.selT [Row 142 4 v162 ((limA (xs.take i)).1.length + 1) (cs2 ++ [(.string (loneF x24.left)), (.string (loneF x24.right)), v159, v160]), Row 9 1 v159 (addVars [] (expT x24.left)).length ((addVars [] (expT x24.left)).map Value.string), Row 9 1 v160 (addVars [] (expT x24.right)).length ((addVars [] (expT x24.right)).map Value.string), Blk b35 74 [(.int .i8 (x24.kind)), (.string x24.atom.pred), av29, (.int .i8 (x24.rel)), (.int .i8 (x24.left.op)), (.string x24.left.term.var), (.int .i8 (x24.left.term.val.kind)), (.int .i64 (x24.left.term.val.num)), (.string x24.left.term.val.text), lk30, (.int .i8 (x24.right.op)), (.string x24.right.term.var), (.int .i8 (x24.right.term.val.kind)), (.int .i64 (x24.right.term.val.num)), (.string x24.right.term.val.text), rk31], Blk rb 136 [v162], Blk fb 133 [lv2, (.map (some mb))], Row 9 1 lv2 ((limA (xs.take i)).2).length (((limA (xs.take i)).2).map Value.string), Mp Value.string (Value.int .i64) mb (fm ((limA (xs.take i)).2))] [1, 2, 4, 0, 5, 6, 7] rfl (by decide) st169) : St Z1 w1 w168 (Row 9 1 v159 (addVars [] (expT x24.left)).length ((addVars [] (expT x24.left)).map Value.string) :: Row 9 1 v160 (addVars [] (expT x24.right)).length ((addVars [] (expT x24.right)).map Value.string) :: Blk rb 136 [v162] :: Row 142 4 v162 ((limA (xs.take i)).1.length + 1) (cs2 ++ [(.string (loneF x24.left)), (.string (loneF x24.right)), v159, v160]) :: Blk fb 133 [lv2, (.map (some mb))] :: Row 9 1 lv2 ((limA (xs.take i)).2).length (((limA (xs.take i)).2).map Value.string) :: Mp Value.string (Value.int .i64) mb (fm ((limA (xs.take i)).2)) :: L)) (by omega) str_at
    obtain ⟨Z175, hx177, g173, st179⟩ := St.freezeRow (r := rStr) st178 (by omega) str_at
    have st170 : St Z175 w168 w168 (Blk rb 136 [v162] :: Row 142 4 v162 (limA (xs.take (i + 1))).1.length (cs2 ++ [(.string (loneF x24.left)), (.string (loneF x24.right)), v159, v160]) :: Blk fb 133 [lv2, (.map (some mb))] :: Row 9 1 lv2 ((limA (xs.take (i + 1))).2).length (((limA (xs.take (i + 1))).2).map Value.string) :: Mp Value.string (Value.int .i64) mb (fm ((limA (xs.take (i + 1))).2)) :: L) := by rw [e171]; simp only [List.length_append, List.length_cons, List.length_nil]; exact st179
    exact loopQ_n _ (by omega) ⟨i + 1, Z175, w168, lv2, v162, (cs2 ++ [(.string (loneF x24.left)), (.string (loneF x24.right)), v159, v160]), rfl, by omega, (hxx.trans (hx176.trans hx177)), by rw [e171]; exact ((RowsOf.ext (hx176.trans hx177) HR).snoc rfl ⟨_, _, rfl, hx177.sl g172, g173⟩), rfl, e143, e144, e145, e146, st170⟩
   refine WC.skip ?_
   refine blkQ_n ?_
   refine blkQ_n ?_
   refine thenQ_n ?_
   refine WC.region ?_
   refine W1 (OpT.iadd .i64 (((i : Nat) : Int)) (1) (((i + 1 : Nat) : Int)) hs17 rfl (wadd (a := i) (b := 1) (by omega)) ?_)
   refine W1 (OpT.move (ni (i + 1)) rfl ?_)
   refine WL.nil ?_
   have e181 := lim_no hx24 h40 (by omega)
   have st180 : St Z1 w1 w38 (Blk rb 136 [lf] :: Row 142 4 lf (limA (xs.take (i + 1))).1.length cs2 :: Blk fb 133 [lv2, (.map (some mb))] :: Row 9 1 lv2 ((limA (xs.take (i + 1))).2).length (((limA (xs.take (i + 1))).2).map Value.string) :: Mp Value.string (Value.int .i64) mb (fm ((limA (xs.take (i + 1))).2)) :: L) := by rw [e181]; exact (St.selT [Blk b35 74 [(.int .i8 (x24.kind)), (.string x24.atom.pred), av29, (.int .i8 (x24.rel)), (.int .i8 (x24.left.op)), (.string x24.left.term.var), (.int .i8 (x24.left.term.val.kind)), (.int .i64 (x24.left.term.val.num)), (.string x24.left.term.val.text), lk30, (.int .i8 (x24.right.op)), (.string x24.right.term.var), (.int .i8 (x24.right.term.val.kind)), (.int .i64 (x24.right.term.val.num)), (.string x24.right.term.val.text), rk31], Blk rb 136 [lf], Row 142 4 lf (limA (xs.take i)).1.length cs2, Blk fb 133 [lv2, (.map (some mb))], Row 9 1 lv2 ((limA (xs.take i)).2).length (((limA (xs.take i)).2).map Value.string), Mp Value.string (Value.int .i64) mb (fm ((limA (xs.take i)).2))] [1, 2, 3, 4, 5] rfl (by decide) st39)
   exact loopQ_n _ (by omega) ⟨i + 1, Z1, w1, lv2, lf, cs2, rfl, by omega, hxx, by rw [e181]; exact HR, rfl, hs18, hs19, hs20, hs21, st180⟩
  refine WL.pass (dj := 29) (c := false) rfl rfl rfl (bF h60) rfl ?_
  refine WL.pass (dj := 29) (c := false) rfl rfl rfl (bF h60) rfl ?_
  refine WL.pass (dj := 29) (c := false) rfl rfl rfl (bF h60) rfl ?_
  refine W1 (OpT.pickF (.bool false) (bF h60) rfl ?_)
  refine W1 (OpT.assign (.bool false) rfl ?_)
  refine Wnt ?_
  refine WC.condF rfl ?_
  refine WC.skip ?_
  refine blkQ_n ?_
  refine blkQ_n ?_
  refine thenQ_n ?_
  refine WC.region ?_
  refine W1 (OpT.iadd .i64 (((i : Nat) : Int)) (1) (((i + 1 : Nat) : Int)) hs17 rfl (wadd (a := i) (b := 1) (by omega)) ?_)
  refine W1 (OpT.move (ni (i + 1)) rfl ?_)
  refine WL.nil ?_
  have e183 := lim_no hx24 h40 (by omega)
  have st182 : St Z1 w1 w38 (Blk rb 136 [lf] :: Row 142 4 lf (limA (xs.take (i + 1))).1.length cs2 :: Blk fb 133 [lv2, (.map (some mb))] :: Row 9 1 lv2 ((limA (xs.take (i + 1))).2).length (((limA (xs.take (i + 1))).2).map Value.string) :: Mp Value.string (Value.int .i64) mb (fm ((limA (xs.take (i + 1))).2)) :: L) := by rw [e183]; exact (St.selT [Blk b35 74 [(.int .i8 (x24.kind)), (.string x24.atom.pred), av29, (.int .i8 (x24.rel)), (.int .i8 (x24.left.op)), (.string x24.left.term.var), (.int .i8 (x24.left.term.val.kind)), (.int .i64 (x24.left.term.val.num)), (.string x24.left.term.val.text), lk30, (.int .i8 (x24.right.op)), (.string x24.right.term.var), (.int .i8 (x24.right.term.val.kind)), (.int .i64 (x24.right.term.val.num)), (.string x24.right.term.val.text), rk31], Blk rb 136 [lf], Row 142 4 lf (limA (xs.take i)).1.length cs2, Blk fb 133 [lv2, (.map (some mb))], Row 9 1 lv2 ((limA (xs.take i)).2).length (((limA (xs.take i)).2).map Value.string), Mp Value.string (Value.int .i64) mb (fm ((limA (xs.take i)).2))] [1, 2, 3, 4, 5] rfl (by decide) st39)
  exact loopQ_n _ (by omega) ⟨i + 1, Z1, w1, lv2, lf, cs2, rfl, by omega, hxx, by rw [e183]; exact HR, rfl, hs18, hs19, hs20, hs21, st182⟩
 refine WC.exit ?_
 refine thenQ_x ?_
 refine loopQ_x ?_
 refine blkQ_hit ?_
 refine thenQ_n ?_
 refine WC.seq ?_
 refine WC.block ?_
 have eT : xs.take i = xs := List.take_of_length_le (by omega)
 rw [show (xs.take i).flatMap ltrT = xs.flatMap ltrT from by rw [eT]] at hal
 refine WC.loop (fun m ρ wz => ∃ (eqs : List Eqn), ∃ (l : List ByteArray), ∃ (Z2 : Nat → Prop), ∃ (w2 : World), ∃ (rv : Value), ∃ (cs3 : List Value), ∃ (lv3 : Value), m = eqs.length ∧ Ext Z w0 Z2 w2 ∧ RowsOf (rEqn.R Z2 w2) 4 cs3 eqs ∧ limR (eqs.length + 1) eqs l = limF xs ∧ eqs.length + l.length ≤ (xs.flatMap ltrT).length ∧ ρ 3 = (pt fb 0) ∧ ρ 4 = (pt rb 0) ∧ St Z2 w2 wz (Blk rb 136 [rv] :: Row 142 4 rv eqs.length cs3 :: Blk fb 133 [lv3, (.map (some mb))] :: Row 9 1 lv3 l.length (l.map Value.string) :: Mp Value.string (Value.int .i64) mb (fm l) :: L)) _ ⟨(limA (xs.take i)).1, (limA (xs.take i)).2, Z1, w1, lf, cs2, lv2, rfl, hxx, HR, by rw [eT, limF], by omega, hs18, hs19, st15⟩ ?_
 rintro m184 ρ185 w186 ⟨eqs, l, Z2, w2, rv, cs3, lv3, hm190, hxy, HE, HT, HB, hs188, hs189, st187⟩
 refine WC.seq ?_
 refine Wsr ?_
 refine W1 (OpT.move (pt fb 0) hs188 ?_)
 refine W1 (OpT.makeFunc [(pt fb 0)] [] (mk1 rfl) mk0 ?_)
 refine W1 (OpT.callS cal72 [] [] [(pt rb 0), (.func (.func 73) #[(pt fb 0)] #[])] rfl (ca2 hs189 rfl) (round_spec st187 HE (by omega)) ?_)
 rintro v198 w199 ⟨Z191, w192, rv193, cs194, lv195, hx196, rfl, st200, HE197⟩
 have hrs := rndF_sum eqs l
 refine Wnt ?_
 refine WC.condP (((rndF eqs l).1.length : Int) < (eqs.length : Int)) rfl (fun h201 => ?_) (fun h201 => ?_)
 ·refine WC.skip ?_
  refine thenQ_n ?_
  refine WC.block ?_
  refine WC.skip ?_
  refine blkQ_n ?_
  exact loopQ_n _ (by omega) ⟨(rndF eqs l).1, (rndF eqs l).2, Z191, w192, rv193, cs194, lv195, rfl, hxy.trans hx196, HE197, by rw [← limR_go h201]; exact HT, by omega, hs188, hs189, st200⟩
 refine WC.exit ?_
 refine thenQ_x ?_
 refine loopQ_x ?_
 refine blkQ_hit ?_
 refine thenQ_n ?_
 refine Wsr ?_
 refine W1 (OpT.move (pt fb 0) hs188 ?_)
 refine W1 (OpT.assign (pt fb 0) rfl ?_)
 refine Wnt ?_
 refine WC.ret <| retQ.one (pt fb 0) rfl ?_
 rw [limR_end h201] at HT
 exact ⟨_, rfl, rfl, rfl, by rw [← HT]; exact (hxy.trans hx196).back (Fnd.shut (St.selT [Blk rb 136 [rv193], Row 142 4 rv193 (rndF eqs l).1.length cs194, Blk fb 133 [lv195, (.map (some mb))], Row 9 1 lv195 ((rndF eqs l).2).length (((rndF eqs l).2).map Value.string), Mp Value.string (Value.int .i64) mb (fm ((rndF eqs l).2))] [2, 3, 4] rfl (by decide) st200))⟩

end Go.Ped
set_option linter.unusedVariables false
set_option maxRecDepth 20000
namespace Go.Ped
open Go Go.Eng Go.RowKit Go.Proofs

theorem cal67 : CallOk Tryz.prog 67 := ⟨⟨Tryz.f67, Tryz.func67, rfl, by decide⟩⟩
theorem cal45 : CallOk Tryz.prog 45 := ⟨⟨Tryz.f45, Tryz.func45, rfl, by decide⟩⟩
theorem cal44 : CallOk Tryz.prog 44 := ⟨⟨Tryz.f44, Tryz.func44, rfl, by decide⟩⟩
theorem tb74 : (Tryz.prog.info? 74).map (·.bytes) = some 216 := by kernel_rfl
theorem tp54 : placesB Tryz.prog 54 = some [(0, 1), (1, 1), (2, 1)] := by kernel_rfl
theorem tz54 : zeroB Tryz.prog 54 = some (.agg #[(.string (⟨#[]⟩ : ByteArray)), (.slice none 0 0), (.slice none 0 0)]) := by kernel_rfl
def ruleE (y : Rul) : Int := if rulB y then (if subB (addVars [] (rulT y)) (limF y.body) then 0 else 73) else 40
def isPos (x : Ltr) : Bool := decide (x.kind = 1)
def wkB (xs : List Ltr) : Bool := xs.any fun x => decide (x.kind = 3) && (decide (x.left.op ≠ 0) || decide (x.right.op ≠ 0))
def makesB (y : Rul) : Bool := decide (ruleE y = 0) && (wkB y.body && !subB (addVars [] (rulT (⟨⟨#[]⟩, y.head, []⟩ : Rul))) (limF (y.body.filter isPos)))
theorem wk_step {xs : List Ltr} {i : Nat} {x : Ltr} (hx : xs[i]? = some x) : wkB (xs.take (i + 1)) = (wkB (xs.take i) || (decide (x.kind = 3) && (decide (x.left.op ≠ 0) || decide (x.right.op ≠ 0)))) := by
  rw [List.take_add_one, hx, wkB, List.any_append]; simp [wkB]
theorem pos_in {xs : List Ltr} {i : Nat} {x : Ltr} (hx : xs[i]? = some x) (h : x.kind = 1) : (xs.take (i + 1)).filter isPos = (xs.take i).filter isPos ++ [x] := by
  rw [List.take_add_one, hx, List.filter_append]; simp [isPos, h]
theorem pos_out {xs : List Ltr} {i : Nat} {x : Ltr} (hx : xs[i]? = some x) (h : ¬ x.kind = 1) : (xs.take (i + 1)).filter isPos = (xs.take i).filter isPos := by
  rw [List.take_add_one, hx, List.filter_append]; simp [isPos, h]
theorem pos_len (xs : List Ltr) (i : Nat) : ((xs.take i).filter isPos).length ≤ i := Nat.le_trans (List.length_filter_le _ _) (by rw [List.length_take]; omega)
theorem filter_flat (p : Ltr → Bool) (xs : List Ltr) : ((xs.filter p).flatMap ltrT).length ≤ (xs.flatMap ltrT).length := by
  induction xs with
  | nil => simp
  | cons x xs ih => rw [List.filter_cons]; split <;> simp only [List.flatMap_cons, List.length_append] <;> omega
theorem flat_len {α β : Type} (f : α → List β) (xs : List α) (h : ∀ x, 1 ≤ (f x).length) : xs.length ≤ (xs.flatMap f).length := by
  induction xs with
  | nil => simp
  | cons x xs ih => have := h x; simp only [List.flatMap_cons, List.length_append, List.length_cons]; omega
theorem ltrT_pos (x : Ltr) : 1 ≤ (ltrT x).length := by have := expT_pos x.left; simp only [ltrT, List.length_append]; omega
theorem Rule_spec {Z : Nat → Prop} {w0 w : World} {L : List Res} (st : St Z w0 w L) (y : Rul) (hl : (rulT y).length < 536870912) (av bv : Value) (ha : rAgr.sl Z w0 av y.head) (hb : rLtr.sl Z w0 bv y.body) : Calls Tryz.prog 44 #[(.agg #[(.string y.pred), av, bv])] w (Ret fun r w' => r = .int .i64 (ruleE y) ∧ St Z w0 w' L) := by
 have hrl := hl
 simp only [rulT, List.length_append] at hrl
 have hav := addVars_len [] (rulT y)
 simp only [List.length_nil] at hav
 refine calls_of_WC (m := 16) (rs := [.tmp 2]) Tryz.func44 rfl rfl rfl rfl ?_
 refine Wsr ?_
 refine W1 (OpT.box st (.agg #[(.string y.pred), av, bv]) [(.string y.pred), av, bv] rfl rfl (fun b1 w2 st3 => ?_))
 refine W1 (OpT.assign (ii 0) rfl ?_)
 refine Wnt ?_
 refine WC.seq ?_
 refine Wsr ?_
 refine W1 (OpT.loadA ⟨b1, 0, none⟩ 3 [(.string y.pred), av, bv] ta54 ts54 rfl ((st3.rowB (i := 0) rfl).part 0 3) rfl ?_)
 refine W1 (OpT.callS cal67 [] [] [(.agg #[(.string y.pred), av, bv])] rfl (ca1 rfl) (CheckRule_spec st3 y (by omega) _ _ ha hb) ?_)
 rintro v4 w5 ⟨rfl, st6⟩
 refine W1 (OpT.assign (.int .i64 (errn (rulB y) 40)) rfl ?_)
 refine Wns ?_
 refine W1 (OpT.move (.int .i64 (errn (rulB y) 40)) rfl ?_)
 refine W1 (OpT.ine .i64 (errn (rulB y) 40) (0) rfl rfl ?_)
 refine Wnt ?_
 refine WC.condP ((errn (rulB y) 40) ≠ 0) rfl (fun h7 => ?_) (fun h7 => ?_)
 ·have h7b := errn_ne _ h7
  refine Wsr ?_
  refine W1 (OpT.move (.int .i64 (errn (rulB y) 40)) rfl ?_)
  refine W1 (OpT.assign (.int .i64 (errn (rulB y) 40)) rfl ?_)
  refine Wnt ?_
  refine WC.ret <| thenQ_r <| retQ.one (.int .i64 (errn (rulB y) 40)) rfl ?_
  exact ⟨_, rfl, congrArg (Value.int .i64) (by simp only [ruleE]; simp [h7b, errn]), (St.selT [Blk b1 54 [(.string y.pred), av, bv]] [] rfl (by decide) st6)⟩
 have h7b := errn_eq _ h7
 refine WC.skip ?_
 refine thenQ_n ?_
 refine WC.seq ?_
 refine WC.seq ?_
 refine WC.drawV2 5 (fun jj vals vv => match jj with | 0 => vv = (pt b1 2) | 1 => vv = bv | 2 => vv.oneCell' = true ∧ vv.cells = #[vv] | 3 => vv = (.agg #[(.string y.pred), av, bv]) | 4 => vv.oneCell' = true ∧ vv.cells = #[vv] | _ => True) (fun jj vals vv => match jj with | 2 => [Fnd vv (limF y.body)] | 4 => [Row 9 1 vv (addVars [] (rulT y)).length ((addVars [] (rulT y)).map Value.string)] | _ => []) st6 fmix (by kernel_rfl) ((obS (obS (obS (obS (obS ob0 (fun aa bb vv h hf => hf)) (fun aa bb vv h hf => hf)) (fun aa bb vv h hf => hf)) (fun aa bb vv h hf => hf)) (fun aa bb vv h hf => hf))) ((obS (obS (obS (obS (obS ob0 (fun aa bb vv h => rfl)) (fun aa bb vv h => rfl)) (fun aa bb vv h => rfl)) (fun aa bb vv h => rfl)) (fun aa bb vv h => rfl))) ((obS (obS (obS (obS (obS ob0 ?_) ?_) ?_) ?_) ?_)) ?_
 ·intro vals ρ w9 X hd h0 st8
  have e10 : ρ 1 = (pt b1 0) := (h0 1 rfl).trans rfl
  refine W1 (OpT.field 2 ⟨b1, 0, none⟩ ⟨b1, 2, none⟩ tf54_2 e10 rfl ?_)
  refine WL.nil ?_
  exact oneQ.mk ⟨rfl, st8⟩
 ·intro vals ρ w12 X hd h0 st11
  have e13 : ρ 9 = (pt b1 2) := ((hd 0 rfl).2 9 rfl).trans (hd 0 rfl).1
  refine W1 (OpT.loadS ⟨b1, 2, none⟩ bv ta52 e13 (st11.cellB (i := 0) rfl rfl) ?_)
  refine WL.nil ?_
  exact oneQ.mk ⟨rfl, st11⟩
 ·intro vals ρ w15 X hd h0 st14
  have e16 : ρ 10 = bv := ((hd 1 rfl).2 10 rfl).trans (hd 1 rfl).1
  refine W1 (OpT.callS cal45 [] [] [bv] rfl (ca1 e16) (limits_spec st14 _ y.body hb (by omega)) ?_)
  rintro v19 w20 ⟨o17, c18, st21⟩
  refine WL.nil ?_
  exact oneQ.mk ⟨⟨o17, c18⟩, st21⟩
 ·intro vals ρ w23 X hd h0 st22
  have e24 : ρ 1 = (pt b1 0) := (h0 1 rfl).trans rfl
  refine W1 (OpT.loadA ⟨b1, 0, none⟩ 3 [(.string y.pred), av, bv] ta54 ts54 e24 ((st22.rowB (i := 0) rfl).part 0 3) rfl ?_)
  refine WL.nil ?_
  exact oneQ.mk ⟨rfl, st22⟩
 ·intro vals ρ w26 X hd h0 st25
  have e27 : ρ 12 = (.agg #[(.string y.pred), av, bv]) := ((hd 3 rfl).2 12 rfl).trans (hd 3 rfl).1
  refine W1 (OpT.callS cal47 [] [] [(.agg #[(.string y.pred), av, bv])] rfl (ca1 e27) (RuleVars_spec st25 y (by omega) _ _ ha hb) ?_)
  rintro v30 w31 st32
  have o28 := st32.rowOne (i := 0) rfl
  have c29 := st32.rowCel (i := 0) rfl
  refine WL.nil ?_
  exact oneQ.mk ⟨⟨o28, c29⟩, st32⟩
 intro vals ρ35 w34 hv h0 st33
 replace st33 : St Z w0 w34 (Fnd (vals 2) (limF y.body) :: Row 9 1 (vals 4) (addVars [] (rulT y)).length ((addVars [] (rulT y)).map Value.string) :: Blk b1 54 [(.string y.pred), av, bv] :: L) := st33
 have o36 : (vals 2).oneCell' = true := (hv 2 rfl).1.1
 have c37 : (vals 2).cells = #[vals 2] := (hv 2 rfl).1.2
 have e38 : ρ35 11 = (vals 2) := ((hv 2 rfl).2 11 rfl)
 have o39 : (vals 4).oneCell' = true := (hv 4 rfl).1.1
 have c40 : (vals 4).cells = #[vals 4] := (hv 4 rfl).1.2
 have e41 : ρ35 13 = (vals 4) := ((hv 4 rfl).2 13 rfl)
 have o42 : (vals 2).oneCell' = true := (hv 2 rfl).1.1
 have c43 : (vals 2).cells = #[vals 2] := (hv 2 rfl).1.2
 have o44 : (vals 4).oneCell' = true := (hv 4 rfl).1.1
 have c45 : (vals 4).cells = #[vals 4] := (hv 4 rfl).1.2
 clear hv h0
 generalize vals 2 = v46 at *
 generalize vals 4 = v47 at *
 obtain ⟨fb, mb, lv49, rfl, st48⟩ := Fnd.open st33
 have o50 := st48.rowOne (i := 1) rfl
 have c51 := st48.rowCel (i := 1) rfl
 obtain ⟨Z52, hz53, hw54, hr55, st57, bk56⟩ := St.freezeStr ((St.selT [Blk fb 133 [lv49, (.map (some mb))], Row 9 1 lv49 (limF y.body).length ((limF y.body).map Value.string), Mp Value.string (Value.int .i64) mb (fm (limF y.body)), Row 9 1 v47 (addVars [] (rulT y)).length ((addVars [] (rulT y)).map Value.string), Blk b1 54 [(.string y.pred), av, bv]] [3, 0, 1, 2, 4] rfl (by decide) st48) : St Z w0 w34 (Row 9 1 v47 (addVars [] (rulT y)).length ((addVars [] (rulT y)).map Value.string) :: Blk fb 133 [lv49, (.map (some mb))] :: Row 9 1 lv49 (limF y.body).length ((limF y.body).map Value.string) :: Mp Value.string (Value.int .i64) mb (fm (limF y.body)) :: Blk b1 54 [(.string y.pred), av, bv] :: L)) (by omega)
 refine W1 (OpT.callS cal46 [] [] [(pt fb 0), v47] rfl (ca2 e38 e41) (all_spec st57 _ (addVars [] (rulT y)) hr55) ?_)
 rintro v58 w59 ⟨rfl, st60⟩
 replace st60 := bk56 _ _ st60
 refine W1 (OpT.not (subB (addVars [] (rulT y)) (limF y.body)) rfl ?_)
 refine Wnt ?_
 refine WC.cond ((!(subB (addVars [] (rulT y)) (limF y.body)))) rfl (fun h61 => ?_) (fun h61 => ?_)
 ·refine WC.seq ?_
  refine WC.region ?_
  refine W1 (OpT.assign (ii 73) rfl ?_)
  refine Wnt ?_
  refine WC.ret <| thenQ_r <| retQ.one (ii 73) rfl ?_
  exact ⟨_, rfl, congrArg (Value.int .i64) (by simp only [ruleE]; simp [h7b, (show (subB (addVars [] (rulT y)) (limF y.body)) = false from by simpa using h61), errn]), (St.selT [Row 9 1 v47 (addVars [] (rulT y)).length ((addVars [] (rulT y)).map Value.string), Blk fb 133 [lv49, (.map (some mb))], Row 9 1 lv49 (limF y.body).length ((limF y.body).map Value.string), Mp Value.string (Value.int .i64) mb (fm (limF y.body)), Blk b1 54 [(.string y.pred), av, bv]] [] rfl (by decide) st60)⟩
 refine WC.skip ?_
 refine thenQ_n ?_
 refine Wsr ?_
 refine W1 (OpT.assign (ii 0) rfl ?_)
 refine Wnt ?_
 refine WC.ret <| retQ.one (ii 0) rfl ?_
 exact ⟨_, rfl, congrArg (Value.int .i64) (by simp only [ruleE]; simp [h7b, (show (subB (addVars [] (rulT y)) (limF y.body)) = true from by simpa using h61), errn]), (St.selT [Row 9 1 v47 (addVars [] (rulT y)).length ((addVars [] (rulT y)).map Value.string), Blk fb 133 [lv49, (.map (some mb))], Row 9 1 lv49 (limF y.body).length ((limF y.body).map Value.string), Mp Value.string (Value.int .i64) mb (fm (limF y.body)), Blk b1 54 [(.string y.pred), av, bv]] [] rfl (by decide) st60)⟩

theorem Makes_spec {Z : Nat → Prop} {w0 w : World} {L : List Res} (st : St Z w0 w L) (y : Rul) (hl : (rulT y).length < 536870912) (av bv : Value) (ha : rAgr.sl Z w0 av y.head) (hb : rLtr.sl Z w0 bv y.body) : Calls Tryz.prog 23 #[(.agg #[(.string y.pred), av, bv])] w (Ret fun r w' => r = .bool (makesB y) ∧ St Z w0 w' L) := by
 have hrl := hl
 simp only [rulT, List.length_append] at hrl
 have hav := addVars_len [] (rulT y)
 simp only [List.length_nil] at hav
 have hal0 := Rl.sl_le hb
 have hfq := flat_len ltrT y.body ltrT_pos
 refine calls_of_WC (m := 52) (rs := [.tmp 2]) Tryz.func23 rfl rfl rfl rfl ?_
 refine Wsr ?_
 refine W1 (OpT.box st (.agg #[(.string y.pred), av, bv]) [(.string y.pred), av, bv] rfl rfl (fun b1 w2 st3 => ?_))
 refine W1 (OpT.assign (.bool false) rfl ?_)
 refine Wnt ?_
 refine WC.seq ?_
 refine Wsr ?_
 refine W1 (OpT.loadA ⟨b1, 0, none⟩ 3 [(.string y.pred), av, bv] ta54 ts54 rfl ((st3.rowB (i := 0) rfl).part 0 3) rfl ?_)
 refine W1 (OpT.callS cal44 [] [] [(.agg #[(.string y.pred), av, bv])] rfl (ca1 rfl) (Rule_spec st3 y (by omega) _ _ ha hb) ?_)
 rintro v4 w5 ⟨rfl, st6⟩
 refine W1 (OpT.ine .i64 ((ruleE y)) (0) rfl rfl ?_)
 refine Wnt ?_
 refine WC.condP ((ruleE y) ≠ 0) rfl (fun h7 => ?_) (fun h7 => ?_)
 ·refine WC.seq ?_
  refine WC.region ?_
  refine W1 (OpT.assign (.bool false) rfl ?_)
  refine Wnt ?_
  refine WC.ret <| thenQ_r <| retQ.one (.bool false) rfl ?_
  exact ⟨_, rfl, congrArg Value.bool (by simp only [makesB]; simp [h7, h7]), (St.selT [Blk b1 54 [(.string y.pred), av, bv]] [] rfl (by decide) st6)⟩
 refine WC.skip ?_
 refine thenQ_n ?_
 refine Wsr ?_
 refine W1 (OpT.assign vn rfl ?_)
 refine Wns ?_
 refine W1 (OpT.assign (.bool false) rfl ?_)
 refine Wnt ?_
 refine WC.seq ?_
 refine Wsr ?_
 refine W1 (OpT.field 2 ⟨b1, 0, none⟩ ⟨b1, 2, none⟩ tf54_2 rfl rfl ?_)
 refine W1 (OpT.loadS ⟨b1, 2, none⟩ bv ta52 rfl (st6.cellB (i := 0) rfl rfl) ?_)
 refine W1 (OpT.lenR rfl tu52 hb rfl ?_)
 refine W1 (OpT.move (ii 0) rfl ?_)
 refine Wnt ?_
 refine WC.block ?_
 obtain ⟨yb, rfl⟩ : ∃ x, x = b1 := ⟨_, rfl⟩
 have st8 : St Z w0 w5 (Row 74 16 vn 0 [] :: Blk yb 54 [(.string y.pred), av, bv] :: L) := st6.rowNil 74 16
 refine WC.loop (fun m ρ wz => ∃ (i : Nat), ∃ (lf : Value), ∃ (cs2 : List Value), m = y.body.length - i ∧ i ≤ y.body.length ∧ RowsOf (rLtr.R Z w0) 16 cs2 ((y.body.take i).filter isPos) ∧ ρ 3 = lf ∧ ρ 4 = (.bool (wkB (y.body.take i))) ∧ ρ 13 = (ni i) ∧ ρ 1 = (pt yb 0) ∧ ρ 11 = bv ∧ ρ 12 = (ni (y.body.length)) ∧ St Z w0 wz (Row 74 16 lf ((y.body.take i).filter isPos).length cs2 :: Blk yb 54 [(.string y.pred), av, bv] :: L)) _ ⟨0, vn, [], rfl, by omega, RowsOf.nil, rfl, rfl, rfl, rfl, rfl, rfl, st8⟩ ?_
 rintro m9 ρ10 w11 ⟨i, lf, cs2, hm20, hp13, HR, hs16, hs15, hs14, hs17, hs18, hs19, st12⟩
 have olf := st12.rowOne (i := 0) rfl
 have clf := st12.rowCel (i := 0) rfl
 have hal := pos_len y.body i
 refine Wsr ?_
 refine W1 (OpT.ilt .i64 (((i : Nat) : Int)) (((y.body.length : Nat) : Int)) hs14 hs19 ?_)
 refine Wnt ?_
 refine WC.seq ?_
 refine WC.condP (((i : Nat) : Int) < ((y.body.length : Nat) : Int)) rfl (fun h21 => ?_) (fun h21 => ?_)
 ·refine WC.skip ?_
  refine thenQ_n ?_
  refine WC.seq ?_
  refine WC.block ?_
  refine Wsr ?_
  obtain ⟨x22, hx22⟩ : ∃ x, (y.body)[i]? = some x := ⟨_, List.getElem?_eq_getElem (by omega)⟩
  refine W1 (OpT.idxX tu52 ts74 hb hs18 .i64 (i) hs14 hx22 (fun ad23 cs24 hr25 hR26 => ?_))
  have hR26c := hR26
  obtain ⟨av27, lk28, rk29, rfl, ha30, hl31, hr32⟩ := hR26
  refine W1 (OpT.loadA ad23 16 [(.int .i8 (x22.kind)), (.string x22.atom.pred), av27, (.int .i8 (x22.rel)), (.int .i8 (x22.left.op)), (.string x22.left.term.var), (.int .i8 (x22.left.term.val.kind)), (.int .i64 (x22.left.term.val.num)), (.string x22.left.term.val.text), lk28, (.int .i8 (x22.right.op)), (.string x22.right.term.var), (.int .i8 (x22.right.term.val.kind)), (.int .i64 (x22.right.term.val.num)), (.string x22.right.term.val.text), rk29] ta74 ts74 rfl ((hr25.at st12).part 0 16) rfl ?_)
  refine W1 (OpT.alloc st12 (.agg #[(.int .i8 (0)), ve, vn, (.int .i8 (0)), (.int .i8 (0)), ve, (.int .i8 (0)), (ii 0), ve, vn, (.int .i8 (0)), ve, (.int .i8 (0)), (ii 0), ve, vn]) [(.int .i8 (0)), ve, vn, (.int .i8 (0)), (.int .i8 (0)), ve, (.int .i8 (0)), (ii 0), ve, vn, (.int .i8 (0)), ve, (.int .i8 (0)), (ii 0), ve, vn] tz74 rfl (fun b33 w34 st35 => ?_))
  refine WL.stepN (OpT.storeA st35 0 16 [(.int .i8 (x22.kind)), (.string x22.atom.pred), av27, (.int .i8 (x22.rel)), (.int .i8 (x22.left.op)), (.string x22.left.term.var), (.int .i8 (x22.left.term.val.kind)), (.int .i64 (x22.left.term.val.num)), (.string x22.left.term.val.text), lk28, (.int .i8 (x22.right.op)), (.string x22.right.term.var), (.int .i8 (x22.right.term.val.kind)), (.int .i64 (x22.right.term.val.num)), (.string x22.right.term.val.text), rk29] rfl ts74 rfl rfl (aC rfl (aC rfl (aC (Rl.sl_one ha30) (aC rfl (aC rfl (aC rfl (aC rfl (aC rfl (aC rfl (aC (Rl.sl_one hl31) (aC rfl (aC rfl (aC rfl (aC rfl (aC rfl (aC (Rl.sl_one hr32) aN)))))))))))))))) rfl rfl (fun w36 st37 => ?_))
  refine Wns ?_
  refine W1 (OpT.field 0 ⟨b33, 0, none⟩ ⟨b33, 0, none⟩ tf74_0 rfl rfl ?_)
  refine W1 (OpT.loadS ⟨b33, 0, none⟩ (.int .i8 (x22.kind)) ta59 rfl (st37.cellB (i := 0) rfl rfl) ?_)
  refine Wnt ?_
  refine WC.block ?_
  refine Wsr ?_
  refine W1 (OpT.ieq .i8 (x22.kind) (1) rfl rfl ?_)
  refine W1 (OpT.assign (.bool (decide (x22.kind = 1))) rfl ?_)
  refine Wnt ?_
  refine WC.condP (x22.kind = 1) rfl (fun h38 => ?_) (fun h38 => ?_)
  ·refine WC.region ?_
   refine W1 (OpT.move lf hs16 ?_)
   refine W1 (OpT.loadA ⟨b33, 0, none⟩ 16 [(.int .i8 (x22.kind)), (.string x22.atom.pred), av27, (.int .i8 (x22.rel)), (.int .i8 (x22.left.op)), (.string x22.left.term.var), (.int .i8 (x22.left.term.val.kind)), (.int .i64 (x22.left.term.val.num)), (.string x22.left.term.val.text), lk28, (.int .i8 (x22.right.op)), (.string x22.right.term.var), (.int .i8 (x22.right.term.val.kind)), (.int .i64 (x22.right.term.val.num)), (.string x22.right.term.val.text), rk29] ta74 ts74 rfl ((st37.rowB (i := 0) rfl).part 0 16) rfl ?_)
   refine W1 (OpT.buildSlice st37 [(0, (.agg #[(.int .i8 (x22.kind)), (.string x22.atom.pred), av27, (.int .i8 (x22.rel)), (.int .i8 (x22.left.op)), (.string x22.left.term.var), (.int .i8 (x22.left.term.val.kind)), (.int .i64 (x22.left.term.val.num)), (.string x22.left.term.val.text), lk28, (.int .i8 (x22.right.op)), (.string x22.right.term.var), (.int .i8 (x22.right.term.val.kind)), (.int .i64 (x22.right.term.val.num)), (.string x22.right.term.val.text), rk29]))] [(.int .i8 (x22.kind)), (.string x22.atom.pred), av27, (.int .i8 (x22.rel)), (.int .i8 (x22.left.op)), (.string x22.left.term.var), (.int .i8 (x22.left.term.val.kind)), (.int .i64 (x22.left.term.val.num)), (.string x22.left.term.val.text), lk28, (.int .i8 (x22.right.op)), (.string x22.right.term.var), (.int .i8 (x22.right.term.val.kind)), (.int .i64 (x22.right.term.val.num)), (.string x22.right.term.val.text), rk29] tu52 ts74 tz74 (mp1 rfl) (by kernel_rfl) (by decide) (fun b39 w40 st41 => ?_))
   have st42 : St Z w0 w40 (Blk b39 74 [(.int .i8 (x22.kind)), (.string x22.atom.pred), av27, (.int .i8 (x22.rel)), (.int .i8 (x22.left.op)), (.string x22.left.term.var), (.int .i8 (x22.left.term.val.kind)), (.int .i64 (x22.left.term.val.num)), (.string x22.left.term.val.text), lk28, (.int .i8 (x22.right.op)), (.string x22.right.term.var), (.int .i8 (x22.right.term.val.kind)), (.int .i64 (x22.right.term.val.num)), (.string x22.right.term.val.text), rk29] :: Row 74 16 lf ((y.body.take i).filter isPos).length cs2 :: Blk b33 74 [(.int .i8 (x22.kind)), (.string x22.atom.pred), av27, (.int .i8 (x22.rel)), (.int .i8 (x22.left.op)), (.string x22.left.term.var), (.int .i8 (x22.left.term.val.kind)), (.int .i64 (x22.left.term.val.num)), (.string x22.left.term.val.text), lk28, (.int .i8 (x22.right.op)), (.string x22.right.term.var), (.int .i8 (x22.right.term.val.kind)), (.int .i64 (x22.right.term.val.num)), (.string x22.right.term.val.text), rk29] :: Blk yb 54 [(.string y.pred), av, bv] :: L) := St.selT [Blk b39 74 [(.int .i8 (x22.kind)), (.string x22.atom.pred), av27, (.int .i8 (x22.rel)), (.int .i8 (x22.left.op)), (.string x22.left.term.var), (.int .i8 (x22.left.term.val.kind)), (.int .i64 (x22.left.term.val.num)), (.string x22.left.term.val.text), lk28, (.int .i8 (x22.right.op)), (.string x22.right.term.var), (.int .i8 (x22.right.term.val.kind)), (.int .i64 (x22.right.term.val.num)), (.string x22.right.term.val.text), rk29], Blk b33 74 [(.int .i8 (x22.kind)), (.string x22.atom.pred), av27, (.int .i8 (x22.rel)), (.int .i8 (x22.left.op)), (.string x22.left.term.var), (.int .i8 (x22.left.term.val.kind)), (.int .i64 (x22.left.term.val.num)), (.string x22.left.term.val.text), lk28, (.int .i8 (x22.right.op)), (.string x22.right.term.var), (.int .i8 (x22.right.term.val.kind)), (.int .i64 (x22.right.term.val.num)), (.string x22.right.term.val.text), rk29], Row 74 16 lf ((y.body.take i).filter isPos).length cs2, Blk yb 54 [(.string y.pred), av, bv]] [0, 2, 1, 3] rfl (by decide) st41
   refine W1 (OpT.append st42 1 tu52 ts74 tz74 rfl tb74 (by decide) rfl rfl rfl (aC rfl (aC rfl (aC (Rl.sl_one ha30) (aC rfl (aC rfl (aC rfl (aC rfl (aC rfl (aC rfl (aC (Rl.sl_one hl31) (aC rfl (aC rfl (aC rfl (aC rfl (aC rfl (aC (Rl.sl_one hr32) aN)))))))))))))))) (by omega) (by omega) (fun v43 w44 st45 hn46 => ?_))
   have o47 := st45.rowOne (i := 0) rfl
   have c48 := st45.rowCel (i := 0) rfl
   refine W1 (OpT.assign v43 rfl ?_)
   refine WL.nil ?_
   refine blkQ_n ?_
   refine blkQ_n ?_
   refine thenQ_n ?_
   refine WC.region ?_
   refine W1 (OpT.iadd .i64 (((i : Nat) : Int)) (1) (((i + 1 : Nat) : Int)) hs14 rfl (wadd (a := i) (b := 1) (by omega)) ?_)
   refine W1 (OpT.move (ni (i + 1)) rfl ?_)
   refine WL.nil ?_
   have e50 := pos_in hx22 h38
   have st49 : St Z w0 w44 (Row 74 16 v43 ((y.body.take (i + 1)).filter isPos).length (cs2 ++ [(.int .i8 (x22.kind)), (.string x22.atom.pred), av27, (.int .i8 (x22.rel)), (.int .i8 (x22.left.op)), (.string x22.left.term.var), (.int .i8 (x22.left.term.val.kind)), (.int .i64 (x22.left.term.val.num)), (.string x22.left.term.val.text), lk28, (.int .i8 (x22.right.op)), (.string x22.right.term.var), (.int .i8 (x22.right.term.val.kind)), (.int .i64 (x22.right.term.val.num)), (.string x22.right.term.val.text), rk29]) :: Blk yb 54 [(.string y.pred), av, bv] :: L) := by rw [e50]; simp only [List.length_append, List.length_cons, List.length_nil]; exact (St.selT [Row 74 16 v43 (((y.body.take i).filter isPos).length + 1) (cs2 ++ [(.int .i8 (x22.kind)), (.string x22.atom.pred), av27, (.int .i8 (x22.rel)), (.int .i8 (x22.left.op)), (.string x22.left.term.var), (.int .i8 (x22.left.term.val.kind)), (.int .i64 (x22.left.term.val.num)), (.string x22.left.term.val.text), lk28, (.int .i8 (x22.right.op)), (.string x22.right.term.var), (.int .i8 (x22.right.term.val.kind)), (.int .i64 (x22.right.term.val.num)), (.string x22.right.term.val.text), rk29]), Blk b33 74 [(.int .i8 (x22.kind)), (.string x22.atom.pred), av27, (.int .i8 (x22.rel)), (.int .i8 (x22.left.op)), (.string x22.left.term.var), (.int .i8 (x22.left.term.val.kind)), (.int .i64 (x22.left.term.val.num)), (.string x22.left.term.val.text), lk28, (.int .i8 (x22.right.op)), (.string x22.right.term.var), (.int .i8 (x22.right.term.val.kind)), (.int .i64 (x22.right.term.val.num)), (.string x22.right.term.val.text), rk29], Blk yb 54 [(.string y.pred), av, bv]] [0, 2] rfl (by decide) st45)
   have e51 : wkB (y.body.take (i + 1)) = (wkB (y.body.take i)) := by rw [wk_step hx22]; simp [h38]
   exact loopQ_n _ (by omega) ⟨i + 1, v43, (cs2 ++ [(.int .i8 (x22.kind)), (.string x22.atom.pred), av27, (.int .i8 (x22.rel)), (.int .i8 (x22.left.op)), (.string x22.left.term.var), (.int .i8 (x22.left.term.val.kind)), (.int .i64 (x22.left.term.val.num)), (.string x22.left.term.val.text), lk28, (.int .i8 (x22.right.op)), (.string x22.right.term.var), (.int .i8 (x22.right.term.val.kind)), (.int .i64 (x22.right.term.val.num)), (.string x22.right.term.val.text), rk29]), rfl, by omega, by rw [e50]; exact HR.snoc rfl hR26c, rfl, (hs15.trans (congrArg Value.bool e51.symm)), rfl, hs17, hs18, hs19, st49⟩
  refine Wsr ?_
  refine W1 (OpT.ieq .i8 (x22.kind) (3) rfl rfl ?_)
  refine W1 (OpT.assign (.bool (decide (x22.kind = 3))) rfl ?_)
  refine Wnt ?_
  refine WC.condP (x22.kind = 3) rfl (fun h52 => ?_) (fun h52 => ?_)
  ·refine WC.region ?_
   refine W1 (OpT.move (.bool (wkB (y.body.take i))) hs15 ?_)
   refine W1 (OpT.move (.bool (wkB (y.body.take i))) rfl ?_)
   by_cases h53 : (wkB (y.body.take i)) = true
   ·refine WL.pass (dj := 28) (c := true) rfl rfl rfl (congrArg Value.bool h53) rfl ?_
    refine WL.pass (dj := 28) (c := true) rfl rfl rfl (congrArg Value.bool h53) rfl ?_
    refine WL.pass (dj := 28) (c := true) rfl rfl rfl (congrArg Value.bool h53) rfl ?_
    refine WL.pass (dj := 28) (c := true) rfl rfl rfl (congrArg Value.bool h53) rfl ?_
    refine W1 (OpT.pickT (.bool true) (congrArg Value.bool h53) rfl ?_)
    refine W1 (OpT.move (.bool true) rfl ?_)
    refine WL.pass (dj := 34) (c := true) rfl rfl rfl rfl rfl ?_
    refine WL.pass (dj := 34) (c := true) rfl rfl rfl rfl rfl ?_
    refine WL.pass (dj := 34) (c := true) rfl rfl rfl rfl rfl ?_
    refine WL.pass (dj := 34) (c := true) rfl rfl rfl rfl rfl ?_
    refine W1 (OpT.pickT (.bool true) rfl rfl ?_)
    refine W1 (OpT.assign (.bool true) rfl ?_)
    refine WL.nil ?_
    refine blkQ_n ?_
    refine blkQ_n ?_
    refine thenQ_n ?_
    refine WC.region ?_
    refine W1 (OpT.iadd .i64 (((i : Nat) : Int)) (1) (((i + 1 : Nat) : Int)) hs14 rfl (wadd (a := i) (b := 1) (by omega)) ?_)
    refine W1 (OpT.move (ni (i + 1)) rfl ?_)
    refine WL.nil ?_
    have e55 := pos_out hx22 h38
    have st54 : St Z w0 w36 (Row 74 16 lf ((y.body.take (i + 1)).filter isPos).length cs2 :: Blk yb 54 [(.string y.pred), av, bv] :: L) := by rw [e55]; exact (St.selT [Blk b33 74 [(.int .i8 (x22.kind)), (.string x22.atom.pred), av27, (.int .i8 (x22.rel)), (.int .i8 (x22.left.op)), (.string x22.left.term.var), (.int .i8 (x22.left.term.val.kind)), (.int .i64 (x22.left.term.val.num)), (.string x22.left.term.val.text), lk28, (.int .i8 (x22.right.op)), (.string x22.right.term.var), (.int .i8 (x22.right.term.val.kind)), (.int .i64 (x22.right.term.val.num)), (.string x22.right.term.val.text), rk29], Row 74 16 lf ((y.body.take i).filter isPos).length cs2, Blk yb 54 [(.string y.pred), av, bv]] [1, 2] rfl (by decide) st37)
    have e56 : wkB (y.body.take (i + 1)) = true := by rw [wk_step hx22]; simp [h38, h52, h53]
    exact loopQ_n _ (by omega) ⟨i + 1, lf, cs2, rfl, by omega, by rw [e55]; exact HR, hs16, ((congrArg Value.bool e56.symm)), rfl, hs17, hs18, hs19, st54⟩
   have h53 := Bool.eq_false_iff.2 h53
   refine W2 (dj := 28) (congrArg Value.bool h53) (OpT.field 4 ⟨b33, 0, none⟩ ⟨b33, 4, none⟩ tf74_3 rfl rfl ?_)
   refine W2 (dj := 28) (congrArg Value.bool h53) (OpT.field 0 ⟨b33, 4, none⟩ ⟨b33, 4, none⟩ tf72_0 rfl rfl ?_)
   refine W2 (dj := 28) (congrArg Value.bool h53) (OpT.loadS ⟨b33, 4, none⟩ (.int .i8 (x22.left.op)) ta64 rfl (st37.cellB (i := 0) rfl rfl) ?_)
   refine W2 (dj := 28) (congrArg Value.bool h53) (OpT.ine .i8 (x22.left.op) (0) rfl rfl ?_)
   refine W1 (OpT.pickF (.bool (decide (x22.left.op ≠ 0))) (congrArg Value.bool h53) rfl ?_)
   refine W1 (OpT.move (.bool (decide (x22.left.op ≠ 0))) rfl ?_)
   by_cases h57 : x22.left.op ≠ 0
   ·refine WL.pass (dj := 34) (c := true) rfl rfl rfl (bT h57) rfl ?_
    refine WL.pass (dj := 34) (c := true) rfl rfl rfl (bT h57) rfl ?_
    refine WL.pass (dj := 34) (c := true) rfl rfl rfl (bT h57) rfl ?_
    refine WL.pass (dj := 34) (c := true) rfl rfl rfl (bT h57) rfl ?_
    refine W1 (OpT.pickT (.bool true) (bT h57) rfl ?_)
    refine W1 (OpT.assign (.bool true) rfl ?_)
    refine WL.nil ?_
    refine blkQ_n ?_
    refine blkQ_n ?_
    refine thenQ_n ?_
    refine WC.region ?_
    refine W1 (OpT.iadd .i64 (((i : Nat) : Int)) (1) (((i + 1 : Nat) : Int)) hs14 rfl (wadd (a := i) (b := 1) (by omega)) ?_)
    refine W1 (OpT.move (ni (i + 1)) rfl ?_)
    refine WL.nil ?_
    have e59 := pos_out hx22 h38
    have st58 : St Z w0 w36 (Row 74 16 lf ((y.body.take (i + 1)).filter isPos).length cs2 :: Blk yb 54 [(.string y.pred), av, bv] :: L) := by rw [e59]; exact (St.selT [Blk b33 74 [(.int .i8 (x22.kind)), (.string x22.atom.pred), av27, (.int .i8 (x22.rel)), (.int .i8 (x22.left.op)), (.string x22.left.term.var), (.int .i8 (x22.left.term.val.kind)), (.int .i64 (x22.left.term.val.num)), (.string x22.left.term.val.text), lk28, (.int .i8 (x22.right.op)), (.string x22.right.term.var), (.int .i8 (x22.right.term.val.kind)), (.int .i64 (x22.right.term.val.num)), (.string x22.right.term.val.text), rk29], Row 74 16 lf ((y.body.take i).filter isPos).length cs2, Blk yb 54 [(.string y.pred), av, bv]] [1, 2] rfl (by decide) st37)
    have e60 : wkB (y.body.take (i + 1)) = true := by rw [wk_step hx22]; simp [h38, h52, h53, h57]
    exact loopQ_n _ (by omega) ⟨i + 1, lf, cs2, rfl, by omega, by rw [e59]; exact HR, hs16, ((congrArg Value.bool e60.symm)), rfl, hs17, hs18, hs19, st58⟩
   refine W2 (dj := 34) (bF h57) (OpT.field 10 ⟨b33, 0, none⟩ ⟨b33, 10, none⟩ tf74_4 rfl rfl ?_)
   refine W2 (dj := 34) (bF h57) (OpT.field 0 ⟨b33, 10, none⟩ ⟨b33, 10, none⟩ tf72_0 rfl rfl ?_)
   refine W2 (dj := 34) (bF h57) (OpT.loadS ⟨b33, 10, none⟩ (.int .i8 (x22.right.op)) ta64 rfl (st37.cellB (i := 0) rfl rfl) ?_)
   refine W2 (dj := 34) (bF h57) (OpT.ine .i8 (x22.right.op) (0) rfl rfl ?_)
   refine W1 (OpT.pickF (.bool (decide (x22.right.op ≠ 0))) (bF h57) rfl ?_)
   refine W1 (OpT.assign (.bool (decide (x22.right.op ≠ 0))) rfl ?_)
   refine WL.nil ?_
   refine blkQ_n ?_
   refine blkQ_n ?_
   refine thenQ_n ?_
   refine WC.region ?_
   refine W1 (OpT.iadd .i64 (((i : Nat) : Int)) (1) (((i + 1 : Nat) : Int)) hs14 rfl (wadd (a := i) (b := 1) (by omega)) ?_)
   refine W1 (OpT.move (ni (i + 1)) rfl ?_)
   refine WL.nil ?_
   have e62 := pos_out hx22 h38
   have st61 : St Z w0 w36 (Row 74 16 lf ((y.body.take (i + 1)).filter isPos).length cs2 :: Blk yb 54 [(.string y.pred), av, bv] :: L) := by rw [e62]; exact (St.selT [Blk b33 74 [(.int .i8 (x22.kind)), (.string x22.atom.pred), av27, (.int .i8 (x22.rel)), (.int .i8 (x22.left.op)), (.string x22.left.term.var), (.int .i8 (x22.left.term.val.kind)), (.int .i64 (x22.left.term.val.num)), (.string x22.left.term.val.text), lk28, (.int .i8 (x22.right.op)), (.string x22.right.term.var), (.int .i8 (x22.right.term.val.kind)), (.int .i64 (x22.right.term.val.num)), (.string x22.right.term.val.text), rk29], Row 74 16 lf ((y.body.take i).filter isPos).length cs2, Blk yb 54 [(.string y.pred), av, bv]] [1, 2] rfl (by decide) st37)
   have e63 : wkB (y.body.take (i + 1)) = (decide (x22.right.op ≠ 0)) := by rw [wk_step hx22]; simp [h38, h52, h53, h57]
   exact loopQ_n _ (by omega) ⟨i + 1, lf, cs2, rfl, by omega, by rw [e62]; exact HR, hs16, ((congrArg Value.bool e63.symm)), rfl, hs17, hs18, hs19, st61⟩
  refine WC.skip ?_
  refine blkQ_n ?_
  refine blkQ_n ?_
  refine thenQ_n ?_
  refine WC.region ?_
  refine W1 (OpT.iadd .i64 (((i : Nat) : Int)) (1) (((i + 1 : Nat) : Int)) hs14 rfl (wadd (a := i) (b := 1) (by omega)) ?_)
  refine W1 (OpT.move (ni (i + 1)) rfl ?_)
  refine WL.nil ?_
  have e65 := pos_out hx22 h38
  have st64 : St Z w0 w36 (Row 74 16 lf ((y.body.take (i + 1)).filter isPos).length cs2 :: Blk yb 54 [(.string y.pred), av, bv] :: L) := by rw [e65]; exact (St.selT [Blk b33 74 [(.int .i8 (x22.kind)), (.string x22.atom.pred), av27, (.int .i8 (x22.rel)), (.int .i8 (x22.left.op)), (.string x22.left.term.var), (.int .i8 (x22.left.term.val.kind)), (.int .i64 (x22.left.term.val.num)), (.string x22.left.term.val.text), lk28, (.int .i8 (x22.right.op)), (.string x22.right.term.var), (.int .i8 (x22.right.term.val.kind)), (.int .i64 (x22.right.term.val.num)), (.string x22.right.term.val.text), rk29], Row 74 16 lf ((y.body.take i).filter isPos).length cs2, Blk yb 54 [(.string y.pred), av, bv]] [1, 2] rfl (by decide) st37)
  have e66 : wkB (y.body.take (i + 1)) = (wkB (y.body.take i)) := by rw [wk_step hx22]; simp [h38, h52]
  exact loopQ_n _ (by omega) ⟨i + 1, lf, cs2, rfl, by omega, by rw [e65]; exact HR, hs16, (hs15.trans (congrArg Value.bool e66.symm)), rfl, hs17, hs18, hs19, st64⟩
 refine WC.exit ?_
 refine thenQ_x ?_
 refine loopQ_x ?_
 refine blkQ_hit ?_
 refine thenQ_n ?_
 refine WC.seq ?_
 have eT : y.body.take i = y.body := List.take_of_length_le (by omega)
 rw [eT] at HR
 have hfp := filter_flat isPos y.body
 obtain ⟨Z3, hx3, hs3, st3⟩ := St.freezeRow (r := rLtr) (xs := y.body.filter isPos) (show St Z w0 w11 (Row 74 16 lf (y.body.filter isPos).length cs2 :: Blk yb 54 [(.string y.pred), av, bv] :: L) from eT ▸ st12) (by have := List.length_filter_le isPos y.body; omega) HR.2
 have ha3 := hx3.sl ha
 have hb3 := hx3.sl hb
 have hvl := addVars_len [] (rulT (⟨⟨#[]⟩, y.head, []⟩ : Rul))
 have hvm : (rulT (⟨⟨#[]⟩, y.head, []⟩ : Rul)).length < 536870912 := by simp only [rulT, List.length_append, List.flatMap_nil, List.length_nil]; omega
 simp only [List.length_nil] at hvl
 rw [eT] at hs15
 by_cases h67 : (wkB y.body) = true
 ·refine WC.drawV2 8 (fun jj vals vv => match jj with | 0 => vv = (.bool (wkB y.body)) | 1 => vv = (.bool (wkB y.body)) | 2 => vv = lf | 3 => vv.oneCell' = true ∧ vv.cells = #[vv] | 4 => vv = (pt yb 1) | 5 => vv = av | 6 => vv = (.agg #[ve, av, vn]) | 7 => vv.oneCell' = true ∧ vv.cells = #[vv] | _ => True) (fun jj vals vv => match jj with | 3 => [Fnd vv (limF (y.body.filter isPos))] | 7 => [Row 9 1 vv (addVars [] (rulT (⟨⟨#[]⟩, y.head, []⟩ : Rul))).length ((addVars [] (rulT (⟨⟨#[]⟩, y.head, []⟩ : Rul))).map Value.string)] | _ => []) st3 fmix (by kernel_rfl) ((obS (obS (obS (obS (obS (obS (obS (obS ob0 (fun aa bb vv h hf => hf)) (fun aa bb vv h hf => hf)) (fun aa bb vv h hf => hf)) (fun aa bb vv h hf => hf)) (fun aa bb vv h hf => hf)) (fun aa bb vv h hf => hf)) (fun aa bb vv h hf => hf)) (fun aa bb vv h hf => hf))) ((obS (obS (obS (obS (obS (obS (obS (obS ob0 (fun aa bb vv h => rfl)) (fun aa bb vv h => rfl)) (fun aa bb vv h => rfl)) (fun aa bb vv h => rfl)) (fun aa bb vv h => rfl)) (fun aa bb vv h => rfl)) (fun aa bb vv h => rfl)) (fun aa bb vv h => rfl))) ((obS (obS (obS (obS (obS (obS (obS (obS ob0 ?_) ?_) ?_) ?_) ?_) ?_) ?_) ?_)) ?_
  ·intro vals ρ w69 X hd h0 st68
   have e70 : ρ 4 = (.bool (wkB y.body)) := (h0 4 rfl).trans hs15
   refine W1 (OpT.move (.bool (wkB y.body)) e70 ?_)
   refine WL.nil ?_
   exact oneQ.mk ⟨rfl, st68⟩
  ·intro vals ρ w72 X hd h0 st71
   have e73 : ρ 41 = (.bool (wkB y.body)) := ((hd 0 rfl).2 41 rfl).trans (hd 0 rfl).1
   refine W1 (OpT.move (.bool (wkB y.body)) e73 ?_)
   refine WL.nil ?_
   exact oneQ.mk ⟨rfl, st71⟩
  ·intro vals ρ w75 X hd h0 st74
   have e76 : ρ 3 = lf := (h0 3 rfl).trans hs16
   have e77 : ρ 42 = (.bool (wkB y.body)) := ((hd 1 rfl).2 42 rfl).trans (hd 1 rfl).1
   refine W2 (dj := 42) (e77.trans (congrArg Value.bool h67)) (OpT.move lf e76 ?_)
   refine WL.nil ?_
   exact oneQ.mk ⟨rfl, st74⟩
  ·intro vals ρ w79 X hd h0 st78
   have e80 : ρ 42 = (.bool (wkB y.body)) := ((hd 1 rfl).2 42 rfl).trans (hd 1 rfl).1
   have e81 : ρ 43 = lf := ((hd 2 rfl).2 43 rfl).trans (hd 2 rfl).1
   refine W2 (dj := 42) (e80.trans (congrArg Value.bool h67)) (OpT.callS cal45 [] [] [lf] rfl (ca1 e81) (limits_spec st78 _ (y.body.filter isPos) hs3 (by omega)) ?_)
   rintro v84 w85 ⟨o82, c83, st86⟩
   refine WL.nil ?_
   exact oneQ.mk ⟨⟨o82, c83⟩, st86⟩
  ·intro vals ρ w88 X hd h0 st87
   have e89 : ρ 1 = (pt yb 0) := (h0 1 rfl).trans hs17
   have e90 : ρ 42 = (.bool (wkB y.body)) := ((hd 1 rfl).2 42 rfl).trans (hd 1 rfl).1
   refine W2 (dj := 42) (e90.trans (congrArg Value.bool h67)) (OpT.field 1 ⟨yb, 0, none⟩ ⟨yb, 1, none⟩ tf54_1 e89 rfl ?_)
   refine WL.nil ?_
   exact oneQ.mk ⟨rfl, st87⟩
  ·intro vals ρ w92 X hd h0 st91
   have e93 : ρ 42 = (.bool (wkB y.body)) := ((hd 1 rfl).2 42 rfl).trans (hd 1 rfl).1
   have e94 : ρ 45 = (pt yb 1) := ((hd 4 rfl).2 45 rfl).trans (hd 4 rfl).1
   refine W2 (dj := 42) (e93.trans (congrArg Value.bool h67)) (OpT.loadS ⟨yb, 1, none⟩ av ta51 e94 (st91.cellB (i := 0) rfl rfl) ?_)
   refine WL.nil ?_
   exact oneQ.mk ⟨rfl, st91⟩
  ·intro vals ρ w96 X hd h0 st95
   have e97 : ρ 42 = (.bool (wkB y.body)) := ((hd 1 rfl).2 42 rfl).trans (hd 1 rfl).1
   have e98 : ρ 46 = av := ((hd 5 rfl).2 46 rfl).trans (hd 5 rfl).1
   refine W2 (dj := 42) (e97.trans (congrArg Value.bool h67)) (OpT.build [(1, av)] [ve, av, vn] tz54 tp54 (mp1 e98) (by first | (simp [Instr.fill, Value.cells, (Rl.sl_cells ha3)]; done) | simp [Instr.fill, (Rl.sl_cells ha3), Value.cells.eq_2, show ∀ cs, (Value.agg cs).cells = cs from fun _ => rfl]) ?_)
   refine WL.nil ?_
   exact oneQ.mk ⟨rfl, st95⟩
  ·intro vals ρ w100 X hd h0 st99
   have e101 : ρ 42 = (.bool (wkB y.body)) := ((hd 1 rfl).2 42 rfl).trans (hd 1 rfl).1
   have e102 : ρ 47 = (.agg #[ve, av, vn]) := ((hd 6 rfl).2 47 rfl).trans (hd 6 rfl).1
   refine W2 (dj := 42) (e101.trans (congrArg Value.bool h67)) (OpT.callS cal47 [] [] [(.agg #[ve, av, vn])] rfl (ca1 e102) (RuleVars_spec st99 (⟨⟨#[]⟩, y.head, []⟩ : Rul) (by omega) _ _ ha3 (Rl.sl_nil rLtr _ _ none 0)) ?_)
   rintro v105 w106 st107
   have o103 := st107.rowOne (i := 0) rfl
   have c104 := st107.rowCel (i := 0) rfl
   refine WL.nil ?_
   exact oneQ.mk ⟨⟨o103, c104⟩, st107⟩
  intro vals ρ110 w109 hv h0 st108
  replace st108 : St Z3 w11 w109 (Fnd (vals 3) (limF (y.body.filter isPos)) :: Row 9 1 (vals 7) (addVars [] (rulT (⟨⟨#[]⟩, y.head, []⟩ : Rul))).length ((addVars [] (rulT (⟨⟨#[]⟩, y.head, []⟩ : Rul))).map Value.string) :: Blk yb 54 [(.string y.pred), av, bv] :: L) := st108
  have e111 : ρ110 42 = (.bool (wkB y.body)) := ((hv 1 rfl).2 42 rfl).trans (hv 1 rfl).1
  have o112 : (vals 3).oneCell' = true := (hv 3 rfl).1.1
  have c113 : (vals 3).cells = #[vals 3] := (hv 3 rfl).1.2
  have e114 : ρ110 44 = (vals 3) := ((hv 3 rfl).2 44 rfl)
  have o115 : (vals 7).oneCell' = true := (hv 7 rfl).1.1
  have c116 : (vals 7).cells = #[vals 7] := (hv 7 rfl).1.2
  have e117 : ρ110 48 = (vals 7) := ((hv 7 rfl).2 48 rfl)
  have o118 : (vals 3).oneCell' = true := (hv 3 rfl).1.1
  have c119 : (vals 3).cells = #[vals 3] := (hv 3 rfl).1.2
  have o120 : (vals 7).oneCell' = true := (hv 7 rfl).1.1
  have c121 : (vals 7).cells = #[vals 7] := (hv 7 rfl).1.2
  clear hv h0
  generalize vals 3 = v122 at *
  generalize vals 7 = v123 at *
  obtain ⟨fb, mb, lv125, rfl, st124⟩ := Fnd.open st108
  have o126 := st124.rowOne (i := 1) rfl
  have c127 := st124.rowCel (i := 1) rfl
  obtain ⟨Z128, hz129, hw130, hr131, st133, bk132⟩ := St.freezeStr ((St.selT [Blk fb 133 [lv125, (.map (some mb))], Row 9 1 lv125 (limF (y.body.filter isPos)).length ((limF (y.body.filter isPos)).map Value.string), Mp Value.string (Value.int .i64) mb (fm (limF (y.body.filter isPos))), Row 9 1 v123 (addVars [] (rulT (⟨⟨#[]⟩, y.head, []⟩ : Rul))).length ((addVars [] (rulT (⟨⟨#[]⟩, y.head, []⟩ : Rul))).map Value.string), Blk yb 54 [(.string y.pred), av, bv]] [3, 0, 1, 2, 4] rfl (by decide) st124) : St Z3 w11 w109 (Row 9 1 v123 (addVars [] (rulT (⟨⟨#[]⟩, y.head, []⟩ : Rul))).length ((addVars [] (rulT (⟨⟨#[]⟩, y.head, []⟩ : Rul))).map Value.string) :: Blk fb 133 [lv125, (.map (some mb))] :: Row 9 1 lv125 (limF (y.body.filter isPos)).length ((limF (y.body.filter isPos)).map Value.string) :: Mp Value.string (Value.int .i64) mb (fm (limF (y.body.filter isPos))) :: Blk yb 54 [(.string y.pred), av, bv] :: L)) (by omega)
  refine W2 (dj := 42) (e111.trans (congrArg Value.bool h67)) (OpT.callS cal46 [] [] [(pt fb 0), v123] rfl (ca2 e114 e117) (all_spec st133 _ (addVars [] (rulT (⟨⟨#[]⟩, y.head, []⟩ : Rul))) hr131) ?_)
  rintro v134 w135 ⟨rfl, st136⟩
  replace st136 := bk132 _ _ st136
  refine W2 (dj := 42) (e111.trans (congrArg Value.bool h67)) (OpT.not (subB (addVars [] (rulT (⟨⟨#[]⟩, y.head, []⟩ : Rul))) (limF (y.body.filter isPos))) rfl ?_)
  refine W1 (OpT.pickT (.bool (!(subB (addVars [] (rulT (⟨⟨#[]⟩, y.head, []⟩ : Rul))) (limF (y.body.filter isPos))))) (e111.trans (congrArg Value.bool h67)) rfl ?_)
  refine W1 (OpT.assign (.bool (!(subB (addVars [] (rulT (⟨⟨#[]⟩, y.head, []⟩ : Rul))) (limF (y.body.filter isPos))))) rfl ?_)
  refine Wnt ?_
  refine WC.ret <| retQ.one (.bool (!(subB (addVars [] (rulT (⟨⟨#[]⟩, y.head, []⟩ : Rul))) (limF (y.body.filter isPos))))) rfl ?_
  exact ⟨_, rfl, congrArg Value.bool (by simp only [makesB]; simp [h67, (Classical.not_not.1 h7)]), hx3.back (St.selT [Row 9 1 v123 (addVars [] (rulT (⟨⟨#[]⟩, y.head, []⟩ : Rul))).length ((addVars [] (rulT (⟨⟨#[]⟩, y.head, []⟩ : Rul))).map Value.string), Blk fb 133 [lv125, (.map (some mb))], Row 9 1 lv125 (limF (y.body.filter isPos)).length ((limF (y.body.filter isPos)).map Value.string), Mp Value.string (Value.int .i64) mb (fm (limF (y.body.filter isPos))), Blk yb 54 [(.string y.pred), av, bv]] [] rfl (by decide) st136)⟩
 have h67 := Bool.eq_false_iff.2 h67
 refine WC.draw 8 (fun jj vv => match jj with | 0 => vv = (.bool (wkB y.body)) | 1 => vv = (.bool (wkB y.body)) | 2 => vv = undef | 3 => vv = undef | 4 => vv = undef | 5 => vv = undef | 6 => vv = undef | 7 => vv = undef | _ => True) (fun _ _ => []) st3 fmix (by kernel_rfl) ((obS (obS (obS (obS (obS (obS (obS (obS ob0 ?_) ?_) ?_) ?_) ?_) ?_) ?_) ?_)) ?_
 ·intro vals ρ w138 X hd h0 st137
  have e139 : ρ 4 = (.bool (wkB y.body)) := (h0 4 rfl).trans hs15
  refine W1 (OpT.move (.bool (wkB y.body)) e139 ?_)
  refine WL.nil ?_
  exact oneQ.mk ⟨rfl, st137⟩
 ·intro vals ρ w141 X hd h0 st140
  have e142 : ρ 41 = (.bool (wkB y.body)) := ((hd 0 rfl).2 41 rfl).trans (hd 0 rfl).1
  refine W1 (OpT.move (.bool (wkB y.body)) e142 ?_)
  refine WL.nil ?_
  exact oneQ.mk ⟨rfl, st140⟩
 ·intro vals ρ w144 X hd h0 st143
  have e145 : ρ 3 = lf := (h0 3 rfl).trans hs16
  have e146 : ρ 42 = (.bool (wkB y.body)) := ((hd 1 rfl).2 42 rfl).trans (hd 1 rfl).1
  refine WL.pass (dj := 42) (c := false) rfl rfl rfl (e146.trans (congrArg Value.bool h67)) rfl ?_
  refine WL.nil ?_
  exact oneQ.mk ⟨rfl, st143⟩
 ·intro vals ρ w148 X hd h0 st147
  have e149 : ρ 42 = (.bool (wkB y.body)) := ((hd 1 rfl).2 42 rfl).trans (hd 1 rfl).1
  have e150 : ρ 43 = undef := ((hd 2 rfl).2 43 rfl).trans (hd 2 rfl).1
  refine WL.pass (dj := 42) (c := false) rfl rfl rfl (e149.trans (congrArg Value.bool h67)) rfl ?_
  refine WL.nil ?_
  exact oneQ.mk ⟨rfl, st147⟩
 ·intro vals ρ w152 X hd h0 st151
  have e153 : ρ 1 = (pt yb 0) := (h0 1 rfl).trans hs17
  have e154 : ρ 42 = (.bool (wkB y.body)) := ((hd 1 rfl).2 42 rfl).trans (hd 1 rfl).1
  refine WL.pass (dj := 42) (c := false) rfl rfl rfl (e154.trans (congrArg Value.bool h67)) rfl ?_
  refine WL.nil ?_
  exact oneQ.mk ⟨rfl, st151⟩
 ·intro vals ρ w156 X hd h0 st155
  have e157 : ρ 42 = (.bool (wkB y.body)) := ((hd 1 rfl).2 42 rfl).trans (hd 1 rfl).1
  have e158 : ρ 45 = undef := ((hd 4 rfl).2 45 rfl).trans (hd 4 rfl).1
  refine WL.pass (dj := 42) (c := false) rfl rfl rfl (e157.trans (congrArg Value.bool h67)) rfl ?_
  refine WL.nil ?_
  exact oneQ.mk ⟨rfl, st155⟩
 ·intro vals ρ w160 X hd h0 st159
  have e161 : ρ 42 = (.bool (wkB y.body)) := ((hd 1 rfl).2 42 rfl).trans (hd 1 rfl).1
  have e162 : ρ 46 = undef := ((hd 5 rfl).2 46 rfl).trans (hd 5 rfl).1
  refine WL.pass (dj := 42) (c := false) rfl rfl rfl (e161.trans (congrArg Value.bool h67)) rfl ?_
  refine WL.nil ?_
  exact oneQ.mk ⟨rfl, st159⟩
 ·intro vals ρ w164 X hd h0 st163
  have e165 : ρ 42 = (.bool (wkB y.body)) := ((hd 1 rfl).2 42 rfl).trans (hd 1 rfl).1
  have e166 : ρ 47 = undef := ((hd 6 rfl).2 47 rfl).trans (hd 6 rfl).1
  refine WL.pass (dj := 42) (c := false) rfl rfl rfl (e165.trans (congrArg Value.bool h67)) rfl ?_
  refine WL.nil ?_
  exact oneQ.mk ⟨rfl, st163⟩
 intro vals ρ169 w168 hv h0 st167
 replace st167 : St Z3 w11 w168 (Blk yb 54 [(.string y.pred), av, bv] :: L) := st167
 have e170 : ρ169 42 = (.bool (wkB y.body)) := ((hv 1 rfl).2 42 rfl).trans (hv 1 rfl).1
 clear hv h0
 refine WL.pass (dj := 42) (c := false) rfl rfl rfl (e170.trans (congrArg Value.bool h67)) rfl ?_
 refine WL.pass (dj := 42) (c := false) rfl rfl rfl (e170.trans (congrArg Value.bool h67)) rfl ?_
 refine W1 (OpT.pickF (.bool false) (e170.trans (congrArg Value.bool h67)) rfl ?_)
 refine W1 (OpT.assign (.bool false) rfl ?_)
 refine Wnt ?_
 refine WC.ret <| retQ.one (.bool false) rfl ?_
 exact ⟨_, rfl, congrArg Value.bool (by simp only [makesB]; simp [h67, (Classical.not_not.1 h7)]), hx3.back (St.selT [Blk yb 54 [(.string y.pred), av, bv]] [] rfl (by decide) st167)⟩

end Go.Ped
set_option linter.unusedVariables false
set_option maxRecDepth 20000
namespace Go.Ped
open Go Go.Eng Go.RowKit Go.Proofs

theorem tz26 : zeroB Tryz.prog 26 = some (.slice none 0 0) := by kernel_rfl
theorem tf25_0 : fieldB Tryz.prog 25 0 = some 0 := by kernel_rfl
theorem ta22 : aggB Tryz.prog 22 = some false := by kernel_rfl
theorem ts3 : sizeB Tryz.prog 3 = some 1 := by kernel_rfl
theorem tz33 : zeroB Tryz.prog 33 = some (.int .i8 (0)) := by kernel_rfl
theorem cal22 : CallOk Tryz.prog 22 := ⟨⟨Tryz.f22, Tryz.func22, rfl, by decide⟩⟩
theorem cal25 : CallOk Tryz.prog 25 := ⟨⟨Tryz.f25, Tryz.func25, rfl, by decide⟩⟩
theorem cal24 : CallOk Tryz.prog 24 := ⟨⟨Tryz.f24, Tryz.func24, rfl, by decide⟩⟩
theorem cal23 : CallOk Tryz.prog 23 := ⟨⟨Tryz.f23, Tryz.func23, rfl, by decide⟩⟩
theorem fld_snoc {α : Type} (g : Ltr → α) (xs : List Ltr) (b : List α) : fld (snocF g) b xs = b ++ (xs.filter isAtm).map g := by
  have : ∀ (ys : List Ltr) (b : List α), ys.foldl (snocF g) b = b ++ ys.map g := by
    intro ys
    induction ys with
    | nil => intro b; simp
    | cons y ys ih => intro b; simp [ih, snocF]
  exact this _ b
theorem fld_len {α : Type} (g : Ltr → α) (xs : List Ltr) (b : List α) : (fld (snocF g) b xs).length ≤ b.length + xs.length := by
  rw [fld_snoc, List.length_append, List.length_map]
  have := List.length_filter_le isAtm xs; omega
def kindOf (x : Rul) : Int := if aggsB x then 3 else if makesB x then 4 else 1
def edgesR (x : Rul) (i : Nat) : List Edg := (x.body.filter isAtm).map (edgOf x.pred (kindOf x) i)
def edgesF (rs : List Rul) : List Edg := rs.zipIdx.flatMap fun p => edgesR p.1 p.2
theorem edges_step {rs : List Rul} {i : Nat} {x : Rul} (hx : rs[i]? = some x) : edgesF (rs.take (i + 1)) = edgesF (rs.take i) ++ edgesR x i := by
  have hi := (List.getElem?_eq_some_iff.1 hx).1
  rw [List.take_add_one, hx, edgesF, Option.toList, List.zipIdx_append, List.flatMap_append, List.length_take, Nat.min_eq_left (by omega)]
  simp [edgesF]
theorem edges_fld {rs : List Rul} {i : Nat} {x : Rul} (hx : rs[i]? = some x) {kd : Int} (hk : kindOf x = kd) : fld (snocF (edgOf x.pred kd i)) (edgesF (rs.take i)) x.body = edgesF (rs.take (i + 1)) := by
  rw [edges_step hx, fld_snoc, edgesR, hk]
theorem edgesF_len (rs : List Rul) : (edgesF rs).length ≤ (rs.flatMap Rul.body).length := by
  have : ∀ (rs : List Rul) (k : Nat), ((rs.zipIdx k).flatMap fun p => edgesR p.1 p.2).length ≤ (rs.flatMap Rul.body).length := by
    intro rs
    induction rs with
    | nil => intro k; simp
    | cons r rs ih =>
      intro k
      have h := ih (k + 1)
      have h2 : (edgesR r k).length ≤ r.body.length := by rw [edgesR, List.length_map]; exact List.length_filter_le _ _
      simp only [List.zipIdx_cons, List.flatMap_cons, List.length_append]; omega
  exact this rs 0
/-- Programs that are not too large. -/
structure Bnd (rs : List Rul) : Prop where
  t : ∀ r ∈ rs, (rulT r).length < 536870912
  b : (rs.flatMap Rul.body).length < 1048576
theorem Bnd.at {rs : List Rul} (h : Bnd rs) {i : Nat} {x : Rul} (hx : rs[i]? = some x) : (rulT x).length < 536870912 ∧ ((rs.take i).flatMap Rul.body).length + x.body.length < 1048576 :=
  ⟨h.t x (List.mem_of_getElem? hx), Nat.lt_of_le_of_lt (flat_at Rul.body hx) h.b⟩
theorem Edges_spec {Z : Nat → Prop} {w0 w : World} {L : List Res} (st : St Z w0 w L) (rv : Value) (rs : List Rul) (hr : rRul.sl Z w0 rv rs) (HB : Bnd rs) : Calls Tryz.prog 7 #[(.agg #[rv])] w (Ret fun r w' => r.oneCell' = true ∧ r.cells = #[r] ∧ St Z w0 w' (Row 35 4 r (edgesF rs).length ((edgesF rs).flatMap ecs) :: L)) := by
 have hal0 := Rl.sl_le hr
 refine calls_of_WC (m := 25) (rs := [.tmp 2]) Tryz.func7 rfl rfl rfl rfl ?_
 refine Wsr ?_
 refine W1 (OpT.box st (.agg #[rv]) [rv] rfl rfl (fun b1 w2 st3 => ?_))
 refine W1 (OpT.assign vn rfl ?_)
 refine Wns ?_
 refine W1 (OpT.alloc st3 vn [vn] tz26 rfl (fun b4 w5 st6 => ?_))
 refine Wnt ?_
 refine WC.seq ?_
 refine Wsr ?_
 refine W1 (OpT.field 0 ⟨b1, 0, none⟩ ⟨b1, 0, none⟩ tf25_0 rfl rfl ?_)
 refine W1 (OpT.loadS ⟨b1, 0, none⟩ rv ta22 rfl (st6.cellB (i := 1) rfl rfl) ?_)
 refine W1 (OpT.lenR rfl tu22 hr rfl ?_)
 refine W1 (OpT.move (ii 0) rfl ?_)
 refine Wnt ?_
 refine WC.block ?_
 obtain ⟨ob, rfl⟩ : ∃ x, x = b4 := ⟨_, rfl⟩
 have st7 : St Z w0 w5 (Row 35 4 vn ([] : List Edg).length (([] : List Edg).flatMap ecs) :: Blk ob 26 [vn] :: Blk b1 25 [rv] :: L) := st6.rowNil 35 4
 have st8 : St Z w0 w5 (Blk ob 26 [vn] :: Row 35 4 vn ([] : List Edg).length (([] : List Edg).flatMap ecs) :: L) := St.selT [Row 35 4 vn ([] : List Edg).length (([] : List Edg).flatMap ecs), Blk ob 26 [vn], Blk b1 25 [rv]] [1, 0] rfl (by decide) st7
 refine WC.loop (fun m ρ wz => ∃ (i : Nat), ∃ (lv2 : Value), m = rs.length - i ∧ i ≤ rs.length ∧ ρ 10 = (ni i) ∧ ρ 3 = (pt ob 0) ∧ ρ 8 = rv ∧ ρ 9 = (ni (rs.length)) ∧ St Z w0 wz (Blk ob 26 [lv2] :: Row 35 4 lv2 (edgesF (rs.take i)).length ((edgesF (rs.take i)).flatMap ecs) :: L)) _ ⟨0, vn, rfl, by omega, rfl, rfl, rfl, rfl, st8⟩ ?_
 rintro m9 ρ10 w11 ⟨i, lv2, hm18, hp13, hs14, hs15, hs16, hs17, st12⟩
 have olv2 := st12.rowOne (i := 1) rfl
 have clv2 := st12.rowCel (i := 1) rfl
 refine Wsr ?_
 refine W1 (OpT.ilt .i64 (((i : Nat) : Int)) (((rs.length : Nat) : Int)) hs14 hs17 ?_)
 refine Wnt ?_
 refine WC.seq ?_
 refine WC.condP (((i : Nat) : Int) < ((rs.length : Nat) : Int)) rfl (fun h19 => ?_) (fun h19 => ?_)
 ·refine WC.skip ?_
  refine thenQ_n ?_
  refine WC.seq ?_
  refine WC.block ?_
  refine Wsr ?_
  refine W1 (OpT.move (ni i) hs14 ?_)
  obtain ⟨x20, hx20⟩ : ∃ x, (rs)[i]? = some x := ⟨_, List.getElem?_eq_getElem (by omega)⟩
  refine W1 (OpT.idxX tu22 ts54 hr hs16 .i64 (i) hs14 hx20 (fun ad21 cs22 hr23 hR24 => ?_))
  have hR24c := hR24
  obtain ⟨hv25, bv26, rfl, hh27, hb28⟩ := hR24
  refine W1 (OpT.loadA ad21 3 [(.string x20.pred), hv25, bv26] ta54 ts54 rfl ((hr23.at st12).part 0 3) rfl ?_)
  refine W1 (OpT.alloc st12 (ii 0) [(ii 0)] tz3 rfl (fun b29 w30 st31 => ?_))
  refine W1 (OpT.alloc st31 (.agg #[ve, vn, vn]) [ve, vn, vn] tz54 rfl (fun b32 w33 st34 => ?_))
  refine WL.stepN (OpT.storeS st34 1 (ni i) rfl ts3 rfl rfl rfl rfl rfl (fun w35 st36 => ?_))
  refine WL.stepN (OpT.storeA st36 0 3 [(.string x20.pred), hv25, bv26] rfl ts54 rfl rfl (aC rfl (aC (Rl.sl_one hh27) (aC (Rl.sl_one hb28) aN))) rfl rfl (fun w37 st38 => ?_))
  refine Wnt ?_
  refine WC.seq ?_
  have hbx := HB.at hx20
  refine WC.region ?_
  refine W1 (OpT.alloc st38 (.int .i8 (0)) [(.int .i8 (0))] tz33 rfl (fun b39 w40 st41 => ?_))
  refine WL.stepN (OpT.storeS st41 0 (.int .i8 (1)) rfl ts33 rfl rfl rfl rfl rfl (fun w42 st43 => ?_))
  refine Wnt ?_
  refine WC.seq ?_
  refine Wsr ?_
  refine W1 (OpT.loadA ⟨b32, 0, none⟩ 3 [(.string x20.pred), hv25, bv26] ta54 ts54 rfl ((st43.rowB (i := 1) rfl).part 0 3) rfl ?_)
  refine W1 (OpT.callS cal22 [] [] [(.agg #[(.string x20.pred), hv25, bv26])] rfl (ca1 rfl) (aggregates_spec st43 x20 _ _ hh27 hb28) ?_)
  rintro v44 w45 ⟨rfl, st46⟩
  refine Wnt ?_
  refine WC.cond ((aggsB x20)) rfl (fun h47 => ?_) (fun h47 => ?_)
  ·refine WC.region ?_
   refine WL.stepN (OpT.storeS st46 0 (.int .i8 (3)) rfl ts33 rfl rfl rfl rfl rfl (fun w48 st49 => ?_))
   refine Wnr ?_
   refine W1 (OpT.field 2 ⟨b32, 0, none⟩ ⟨b32, 2, none⟩ tf54_2 rfl rfl ?_)
   refine W1 (OpT.loadS ⟨b32, 2, none⟩ bv26 ta52 rfl (st49.cellB (i := 1) rfl rfl) ?_)
   refine W1 (OpT.makeFunc [] [(pt b32 0), (pt b39 0), (pt b29 0), (pt ob 0)] mk0 (mk4 rfl rfl rfl hs15) ?_)
   have st50 : St Z w0 w48 (EJ b32 b39 b29 ob x20.pred hv25 bv26 3 ((i : Nat) : Int) (edgesF (rs.take i)) lv2 ++ L) := (St.selT [Blk b39 33 [(.int .i8 (3))], Blk b32 54 [(.string x20.pred), hv25, bv26], Blk b29 3 [(ni i)], Blk ob 26 [lv2], Row 35 4 lv2 (edgesF (rs.take i)).length ((edgesF (rs.take i)).flatMap ecs)] [1, 0, 2, 3, 4] rfl (by decide) st49)
   have hel := edgesF_len (rs.take i)
   refine W1 (OpT.callS cal24 [] [] [bv26, (.func (.func 25) #[] #[(pt b32 0), (pt b39 0), (pt b29 0), (pt ob 0)])] rfl (ca2 rfl rfl) (atoms_spec (fun es lv => EJ b32 b39 b29 ob x20.pred hv25 bv26 3 ((i : Nat) : Int) es lv) (snocF (edgOf x20.pred 3 ((i : Nat) : Int))) (edgesF (rs.take i)) lv2 st50 bv26 x20.body hb28 25 cal25 [(pt b32 0), (pt b39 0), (pt b29 0), (pt ob 0)] (fun L2 w2 j z lv2 hz hza cs2 hR st2 => by obtain ⟨a2, l2, r2, rfl, q1, q2, q3⟩ := hR; exact Edges1_spec hh27 hb28 st2 (by have h1 := fld_len (edgOf x20.pred 3 ((i : Nat) : Int)) (x20.body.take j) (edgesF (rs.take i)); have h2 := (List.getElem?_eq_some_iff.1 hz).1; rw [List.length_take] at h1; omega) z a2 l2 r2 q1 q2 q3)) ?_)
   rintro v54 w55 ⟨rfl, lv51, st56⟩
   replace st56 : St Z w0 w55 (Blk b32 54 [(.string x20.pred), hv25, bv26] :: Blk b39 33 [(.int .i8 (3))] :: Blk b29 3 [(ni i)] :: Blk ob 26 [lv51] :: Row 35 4 lv51 (fld (snocF (edgOf x20.pred 3 ((i : Nat) : Int))) (edgesF (rs.take i)) x20.body).length ((fld (snocF (edgOf x20.pred 3 ((i : Nat) : Int))) (edgesF (rs.take i)) x20.body).flatMap ecs) :: L) := st56
   have o52 := st56.rowOne (i := 4) rfl
   have c53 := st56.rowCel (i := 4) rfl
   refine WL.nil ?_
   refine blkQ_n ?_
   refine thenQ_n ?_
   refine WC.region ?_
   refine W1 (OpT.iadd .i64 (((i : Nat) : Int)) (1) (((i + 1 : Nat) : Int)) hs14 rfl (wadd (a := i) (b := 1) (by omega)) ?_)
   refine W1 (OpT.move (ni (i + 1)) rfl ?_)
   refine WL.nil ?_
   have e58 := edges_fld hx20 (show kindOf x20 = 3 from by simp only [kindOf]; simp [h47])
   have st57 : St Z w0 w55 (Blk ob 26 [lv51] :: Row 35 4 lv51 (edgesF (rs.take (i + 1))).length ((edgesF (rs.take (i + 1))).flatMap ecs) :: L) := by rw [← e58]; exact (St.selT [Blk b32 54 [(.string x20.pred), hv25, bv26], Blk b39 33 [(.int .i8 (3))], Blk b29 3 [(ni i)], Blk ob 26 [lv51], Row 35 4 lv51 (fld (snocF (edgOf x20.pred 3 ((i : Nat) : Int))) (edgesF (rs.take i)) x20.body).length ((fld (snocF (edgOf x20.pred 3 ((i : Nat) : Int))) (edgesF (rs.take i)) x20.body).flatMap ecs)] [3, 4] rfl (by decide) st56)
   exact loopQ_n _ (by omega) ⟨i + 1, lv51, rfl, by omega, rfl, hs15, hs16, hs17, st57⟩
  refine Wsr ?_
  refine W1 (OpT.loadA ⟨b32, 0, none⟩ 3 [(.string x20.pred), hv25, bv26] ta54 ts54 rfl ((st46.rowB (i := 1) rfl).part 0 3) rfl ?_)
  refine W1 (OpT.callS cal23 [] [] [(.agg #[(.string x20.pred), hv25, bv26])] rfl (ca1 rfl) (Makes_spec st46 x20 (by omega) _ _ hh27 hb28) ?_)
  rintro v59 w60 ⟨rfl, st61⟩
  refine Wnt ?_
  refine WC.cond ((makesB x20)) rfl (fun h62 => ?_) (fun h62 => ?_)
  ·refine WC.region ?_
   refine WL.stepN (OpT.storeS st61 0 (.int .i8 (4)) rfl ts33 rfl rfl rfl rfl rfl (fun w63 st64 => ?_))
   refine Wnr ?_
   refine W1 (OpT.field 2 ⟨b32, 0, none⟩ ⟨b32, 2, none⟩ tf54_2 rfl rfl ?_)
   refine W1 (OpT.loadS ⟨b32, 2, none⟩ bv26 ta52 rfl (st64.cellB (i := 1) rfl rfl) ?_)
   refine W1 (OpT.makeFunc [] [(pt b32 0), (pt b39 0), (pt b29 0), (pt ob 0)] mk0 (mk4 rfl rfl rfl hs15) ?_)
   have st65 : St Z w0 w63 (EJ b32 b39 b29 ob x20.pred hv25 bv26 4 ((i : Nat) : Int) (edgesF (rs.take i)) lv2 ++ L) := (St.selT [Blk b39 33 [(.int .i8 (4))], Blk b32 54 [(.string x20.pred), hv25, bv26], Blk b29 3 [(ni i)], Blk ob 26 [lv2], Row 35 4 lv2 (edgesF (rs.take i)).length ((edgesF (rs.take i)).flatMap ecs)] [1, 0, 2, 3, 4] rfl (by decide) st64)
   have hel := edgesF_len (rs.take i)
   refine W1 (OpT.callS cal24 [] [] [bv26, (.func (.func 25) #[] #[(pt b32 0), (pt b39 0), (pt b29 0), (pt ob 0)])] rfl (ca2 rfl rfl) (atoms_spec (fun es lv => EJ b32 b39 b29 ob x20.pred hv25 bv26 4 ((i : Nat) : Int) es lv) (snocF (edgOf x20.pred 4 ((i : Nat) : Int))) (edgesF (rs.take i)) lv2 st65 bv26 x20.body hb28 25 cal25 [(pt b32 0), (pt b39 0), (pt b29 0), (pt ob 0)] (fun L2 w2 j z lv2 hz hza cs2 hR st2 => by obtain ⟨a2, l2, r2, rfl, q1, q2, q3⟩ := hR; exact Edges1_spec hh27 hb28 st2 (by have h1 := fld_len (edgOf x20.pred 4 ((i : Nat) : Int)) (x20.body.take j) (edgesF (rs.take i)); have h2 := (List.getElem?_eq_some_iff.1 hz).1; rw [List.length_take] at h1; omega) z a2 l2 r2 q1 q2 q3)) ?_)
   rintro v69 w70 ⟨rfl, lv66, st71⟩
   replace st71 : St Z w0 w70 (Blk b32 54 [(.string x20.pred), hv25, bv26] :: Blk b39 33 [(.int .i8 (4))] :: Blk b29 3 [(ni i)] :: Blk ob 26 [lv66] :: Row 35 4 lv66 (fld (snocF (edgOf x20.pred 4 ((i : Nat) : Int))) (edgesF (rs.take i)) x20.body).length ((fld (snocF (edgOf x20.pred 4 ((i : Nat) : Int))) (edgesF (rs.take i)) x20.body).flatMap ecs) :: L) := st71
   have o67 := st71.rowOne (i := 4) rfl
   have c68 := st71.rowCel (i := 4) rfl
   refine WL.nil ?_
   refine blkQ_n ?_
   refine thenQ_n ?_
   refine WC.region ?_
   refine W1 (OpT.iadd .i64 (((i : Nat) : Int)) (1) (((i + 1 : Nat) : Int)) hs14 rfl (wadd (a := i) (b := 1) (by omega)) ?_)
   refine W1 (OpT.move (ni (i + 1)) rfl ?_)
   refine WL.nil ?_
   have e73 := edges_fld hx20 (show kindOf x20 = 4 from by simp only [kindOf]; simp [h47, h62])
   have st72 : St Z w0 w70 (Blk ob 26 [lv66] :: Row 35 4 lv66 (edgesF (rs.take (i + 1))).length ((edgesF (rs.take (i + 1))).flatMap ecs) :: L) := by rw [← e73]; exact (St.selT [Blk b32 54 [(.string x20.pred), hv25, bv26], Blk b39 33 [(.int .i8 (4))], Blk b29 3 [(ni i)], Blk ob 26 [lv66], Row 35 4 lv66 (fld (snocF (edgOf x20.pred 4 ((i : Nat) : Int))) (edgesF (rs.take i)) x20.body).length ((fld (snocF (edgOf x20.pred 4 ((i : Nat) : Int))) (edgesF (rs.take i)) x20.body).flatMap ecs)] [3, 4] rfl (by decide) st71)
   exact loopQ_n _ (by omega) ⟨i + 1, lv66, rfl, by omega, rfl, hs15, hs16, hs17, st72⟩
  refine WC.skip ?_
  refine thenQ_n ?_
  refine WC.region ?_
  refine W1 (OpT.field 2 ⟨b32, 0, none⟩ ⟨b32, 2, none⟩ tf54_2 rfl rfl ?_)
  refine W1 (OpT.loadS ⟨b32, 2, none⟩ bv26 ta52 rfl (st61.cellB (i := 1) rfl rfl) ?_)
  refine W1 (OpT.makeFunc [] [(pt b32 0), (pt b39 0), (pt b29 0), (pt ob 0)] mk0 (mk4 rfl rfl rfl hs15) ?_)
  have st74 : St Z w0 w60 (EJ b32 b39 b29 ob x20.pred hv25 bv26 1 ((i : Nat) : Int) (edgesF (rs.take i)) lv2 ++ L) := (St.selT [Blk b39 33 [(.int .i8 (1))], Blk b32 54 [(.string x20.pred), hv25, bv26], Blk b29 3 [(ni i)], Blk ob 26 [lv2], Row 35 4 lv2 (edgesF (rs.take i)).length ((edgesF (rs.take i)).flatMap ecs)] [1, 0, 2, 3, 4] rfl (by decide) st61)
  have hel := edgesF_len (rs.take i)
  refine W1 (OpT.callS cal24 [] [] [bv26, (.func (.func 25) #[] #[(pt b32 0), (pt b39 0), (pt b29 0), (pt ob 0)])] rfl (ca2 rfl rfl) (atoms_spec (fun es lv => EJ b32 b39 b29 ob x20.pred hv25 bv26 1 ((i : Nat) : Int) es lv) (snocF (edgOf x20.pred 1 ((i : Nat) : Int))) (edgesF (rs.take i)) lv2 st74 bv26 x20.body hb28 25 cal25 [(pt b32 0), (pt b39 0), (pt b29 0), (pt ob 0)] (fun L2 w2 j z lv2 hz hza cs2 hR st2 => by obtain ⟨a2, l2, r2, rfl, q1, q2, q3⟩ := hR; exact Edges1_spec hh27 hb28 st2 (by have h1 := fld_len (edgOf x20.pred 1 ((i : Nat) : Int)) (x20.body.take j) (edgesF (rs.take i)); have h2 := (List.getElem?_eq_some_iff.1 hz).1; rw [List.length_take] at h1; omega) z a2 l2 r2 q1 q2 q3)) ?_)
  rintro v78 w79 ⟨rfl, lv75, st80⟩
  replace st80 : St Z w0 w79 (Blk b32 54 [(.string x20.pred), hv25, bv26] :: Blk b39 33 [(.int .i8 (1))] :: Blk b29 3 [(ni i)] :: Blk ob 26 [lv75] :: Row 35 4 lv75 (fld (snocF (edgOf x20.pred 1 ((i : Nat) : Int))) (edgesF (rs.take i)) x20.body).length ((fld (snocF (edgOf x20.pred 1 ((i : Nat) : Int))) (edgesF (rs.take i)) x20.body).flatMap ecs) :: L) := st80
  have o76 := st80.rowOne (i := 4) rfl
  have c77 := st80.rowCel (i := 4) rfl
  refine WL.nil ?_
  refine blkQ_n ?_
  refine thenQ_n ?_
  refine WC.region ?_
  refine W1 (OpT.iadd .i64 (((i : Nat) : Int)) (1) (((i + 1 : Nat) : Int)) hs14 rfl (wadd (a := i) (b := 1) (by omega)) ?_)
  refine W1 (OpT.move (ni (i + 1)) rfl ?_)
  refine WL.nil ?_
  have e82 := edges_fld hx20 (show kindOf x20 = 1 from by simp only [kindOf]; simp [h47, h62])
  have st81 : St Z w0 w79 (Blk ob 26 [lv75] :: Row 35 4 lv75 (edgesF (rs.take (i + 1))).length ((edgesF (rs.take (i + 1))).flatMap ecs) :: L) := by rw [← e82]; exact (St.selT [Blk b32 54 [(.string x20.pred), hv25, bv26], Blk b39 33 [(.int .i8 (1))], Blk b29 3 [(ni i)], Blk ob 26 [lv75], Row 35 4 lv75 (fld (snocF (edgOf x20.pred 1 ((i : Nat) : Int))) (edgesF (rs.take i)) x20.body).length ((fld (snocF (edgOf x20.pred 1 ((i : Nat) : Int))) (edgesF (rs.take i)) x20.body).flatMap ecs)] [3, 4] rfl (by decide) st80)
  exact loopQ_n _ (by omega) ⟨i + 1, lv75, rfl, by omega, rfl, hs15, hs16, hs17, st81⟩
 refine WC.exit ?_
 refine thenQ_x ?_
 refine loopQ_x ?_
 refine blkQ_hit ?_
 refine thenQ_n ?_
 refine Wsr ?_
 refine W1 (OpT.loadS ⟨ob, 0, none⟩ lv2 ta26 hs15 (st12.cellB (i := 0) rfl rfl) ?_)
 refine W1 (OpT.assign lv2 rfl ?_)
 refine Wnt ?_
 refine WC.ret <| retQ.one lv2 rfl ?_
 have eT : rs.take i = rs := List.take_of_length_le (by omega)
 rw [eT] at st12
 exact ⟨_, rfl, olv2, clv2, (St.selT [Blk ob 26 [lv2], Row 35 4 lv2 (edgesF rs).length ((edgesF rs).flatMap ecs)] [1] rfl (by decide) st12)⟩

end Go.Ped
set_option linter.unusedVariables false
set_option maxRecDepth 20000
namespace Go.Ped
open Go Go.Eng Go.RowKit Go.Proofs

theorem tz72 : zeroB Tryz.prog 72 = some (.agg #[(.int .i8 (0)), (.string (⟨#[]⟩ : ByteArray)), (.int .i8 (0)), (.int .i64 (0)), (.string (⟨#[]⟩ : ByteArray)), (.slice none 0 0)]) := by kernel_rfl
theorem tb72 : (Tryz.prog.info? 72).map (·.bytes) = some 80 := by kernel_rfl
theorem cal65 : CallOk Tryz.prog 65 := ⟨⟨Tryz.f65, Tryz.func65, rfl, by decide⟩⟩
theorem cal41 : CallOk Tryz.prog 41 := ⟨⟨Tryz.f41, Tryz.func41, rfl, by decide⟩⟩
theorem cal21 : CallOk Tryz.prog 21 := ⟨⟨Tryz.f21, Tryz.func21, rfl, by decide⟩⟩
theorem rExp_slN {Z : Nat → Prop} {w : World} {v : Value} {xs : List Exp} (h : rExp.sl Z w v xs) : ∃ n, (rExpN n).sl Z w v xs := by
  obtain ⟨A, c, h1, h2, h3⟩ := h
  have key : ∀ k, k ≤ xs.length → ∃ n, ∀ (i : Nat) (x : Exp), i < k → xs[i]? = some x → ∃ ad cs, A = some ad ∧ RowZ Z w (ad.add (i * 6)) cs ∧ (rExpN n).R Z w cs x := by
    intro k
    induction k with
    | zero => intro _; exact ⟨0, fun i x hi => absurd hi (Nat.not_lt_zero _)⟩
    | succ k ih =>
      intro hk
      obtain ⟨n, hn⟩ := ih (by omega)
      obtain ⟨x, hx⟩ : ∃ x, xs[k]? = some x := ⟨_, List.getElem?_eq_getElem (by omega)⟩
      obtain ⟨ad, cs, e, hr, kv, hcs, n2, hk2⟩ := h3 k x hx
      refine ⟨n + n2 + 1, fun i y hi hy => ?_⟩
      rcases Nat.lt_succ_iff_lt_or_eq.1 hi with hi | rfl
      · obtain ⟨ad', cs', e', hr', hR'⟩ := hn i y hi hy
        exact ⟨ad', cs', e', hr', rExpN_le (by omega) hR'⟩
      · rw [hx] at hy; cases hy
        exact ⟨ad, cs, e, hr, rExpN_le (n := n2 + 1) (by omega) ⟨kv, hcs, hk2⟩⟩
  obtain ⟨n, hn⟩ := key xs.length (Nat.le_refl _)
  refine ⟨n, A, c, h1, h2, fun i x hx => ?_⟩
  obtain ⟨ad, cs, e, hr, hR⟩ := hn i x (List.getElem?_eq_some_iff.1 hx).1 hx
  exact ⟨ad, cs, e, by rw [rExpN_sz]; exact hr, hR⟩
theorem rExp_mk {Z : Nat → Prop} {w : World} {kv : Value} {x : Exp} (h : rExp.sl Z w kv x.kids) : rExp.R Z w [.int .i8 x.op, .string x.term.var, .int .i8 x.term.val.kind, .int .i64 x.term.val.num, .string x.term.val.text, kv] x := ⟨kv, rfl, rExp_slN h⟩
theorem fresh_exp {Z : Nat → Prop} {w0 : World} {b : Nat} {cs : List Value} {x : Exp} (h : RowZ Z w0 ⟨b, 0, none⟩ cs) (hR : rExp.R Z w0 cs x) : rExp.sl Z w0 (.slice (some ⟨b, 0, none⟩) 1 1) [x] := by
  refine ⟨some ⟨b, 0, none⟩, 1, rfl, by simp, fun i y hy => ?_⟩
  cases i with
  | zero => cases hy; exact ⟨⟨b, 0, none⟩, _, rfl, h, hR⟩
  | succ i => simp at hy
def lvls : Nat → Nat → List Exp → Nat → Nat
  | 0, n, xs, lf => if xs.length = 0 then n else lf + 1
  | f + 1, n, xs, lf => if xs.length = 0 then n else if lf < n + xs.length + (xs.flatMap Exp.kids).length then lf + 1 else lvls f (n + xs.length) (xs.flatMap Exp.kids) lf
theorem lvls_kids {f n lf : Nat} {xs : List Exp} (h : 0 < xs.length) (h2 : lf < n + xs.length + (xs.flatMap Exp.kids).length) : lvls f n xs lf = lf + 1 := by
  cases f with
  | zero => rw [lvls, if_neg (by omega)]
  | succ f => rw [lvls, if_neg (by omega), if_pos h2]
theorem lvls_deep {n lf : Nat} {xs : List Exp} (h : 0 < xs.length) : lvls 0 n xs lf = lf + 1 := by rw [lvls, if_neg (by omega)]
theorem lvls_go {f n lf : Nat} {xs : List Exp} (h : 0 < xs.length) (h2 : n + xs.length + (xs.flatMap Exp.kids).length ≤ lf) : lvls (f + 1) n xs lf = lvls f (n + xs.length) (xs.flatMap Exp.kids) lf := by
  rw [lvls, if_neg (by omega), if_neg (by omega)]
theorem lvls_end {f n lf : Nat} {xs : List Exp} (h : ¬ 0 < xs.length) : lvls f n xs lf = n := by
  cases f <;> rw [lvls, if_pos (by omega)]
theorem lvls_le {lf : Nat} : ∀ (f n : Nat) (xs : List Exp), n ≤ lf + 1 → lvls f n xs lf ≤ lf + 1 := by
  intro f
  induction f with
  | zero => intro n xs h; rw [lvls]; split <;> omega
  | succ f ih =>
    intro n xs h
    rw [lvls]
    split
    · omega
    · split
      · omega
      · exact ih _ _ (by omega)
theorem expT_kids (e : Exp) : (expT e).length = 1 + (e.kids.flatMap expT).length := by
  cases e with
  | mk o t ks => simp only [expT, expsT_eq, List.length_cons, Exp.kids]; omega
theorem flat_kids (xs : List Exp) : (xs.flatMap expT).length = xs.length + ((xs.flatMap Exp.kids).flatMap expT).length := by
  induction xs with
  | nil => rfl
  | cons x xs ih => simp only [List.flatMap_cons, List.length_append, List.flatMap_append, List.length_cons, expT_kids x]; omega
theorem lvls_ge {lf : Nat} : ∀ (f n : Nat) (xs : List Exp), lvls f n xs lf ≤ lf → n + (xs.flatMap expT).length ≤ lvls f n xs lf := by
  intro f
  induction f with
  | zero =>
    intro n xs h
    rw [lvls] at h ⊢
    split
    · rename_i h0; rw [List.length_eq_zero_iff.1 h0]; simp
    · rename_i h0; rw [if_neg h0] at h; omega
  | succ f ih =>
    intro n xs h
    rw [lvls] at h ⊢
    split
    · rename_i h0; rw [List.length_eq_zero_iff.1 h0]; simp
    · rename_i h0
      rw [if_neg h0] at h
      split
      · rename_i h1; rw [if_pos h1] at h; omega
      · rename_i h1
        rw [if_neg h1] at h
        have := ih _ _ h
        have := flat_kids xs
        omega
def partsE (e : Exp) (lf : Nat) : Nat := lvls 65536 0 [e] lf
theorem partsE_le (e : Exp) (lf : Nat) : partsE e lf ≤ lf + 1 := lvls_le _ _ _ (by omega)
theorem partsE_ge {e : Exp} {lf : Nat} (h : partsE e lf ≤ lf) : (expT e).length ≤ partsE e lf := by
  have := lvls_ge _ _ _ h
  simpa [partsE] using this
def partsL (x : Ltr) (lf : Nat) : Nat := if lf < 1 + x.atom.args.length + partsE x.left lf then lf + 1 else 1 + x.atom.args.length + partsE x.left lf + partsE x.right (lf - (1 + x.atom.args.length + partsE x.left lf))
theorem partsL_le (x : Ltr) (lf : Nat) : partsL x lf ≤ lf + 1 := by
  unfold partsL
  split
  · omega
  · have := partsE_le x.right (lf - (1 + x.atom.args.length + partsE x.left lf)); omega
theorem partsL_ge {x : Ltr} {lf : Nat} (h : partsL x lf ≤ lf) : 1 + (ltrT x).length ≤ partsL x lf := by
  unfold partsL at h ⊢
  split
  · rename_i h0; rw [if_pos h0] at h; omega
  · rename_i h0
    rw [if_neg h0] at h
    have h1 := partsE_ge (e := x.left) (lf := lf) (by omega)
    have h2 := partsE_ge (e := x.right) (lf := lf - (1 + x.atom.args.length + partsE x.left lf)) (by omega)
    have h3 : (atmT x.atom).length = x.atom.args.length := by
      unfold atmT
      induction x.atom.args with
      | nil => rfl
      | cons a l ih => simp only [List.flatMap_cons, List.length_append, List.length_cons, List.length_nil, ih]; omega
    simp only [ltrT, List.length_append]; omega
def partsS (lf n : Nat) (x : Ltr) : Nat := if n ≤ lf then n + partsL x (lf - n) else n
def partsR (y : Rul) (lf : Nat) (xs : List Ltr) : Nat := xs.foldl (partsS lf) (1 + y.head.length)
theorem partsR_step {y : Rul} {lf i : Nat} {xs : List Ltr} {x : Ltr} (hx : xs[i]? = some x) : partsR y lf (xs.take (i + 1)) = partsS lf (partsR y lf (xs.take i)) x := by
  rw [List.take_add_one, hx, partsR, List.foldl_append]; rfl
theorem partsS_stop {lf : Nat} : ∀ (xs : List Ltr) (n : Nat), lf < n → xs.foldl (partsS lf) n = n := by
  intro xs
  induction xs with
  | nil => intro n _; rfl
  | cons x xs ih => intro n h; rw [List.foldl_cons, partsS, if_neg (by omega)]; exact ih n h
theorem partsR_stop {y : Rul} {lf i : Nat} {xs : List Ltr} (h : lf < partsR y lf (xs.take i)) : partsR y lf xs = partsR y lf (xs.take i) := by
  have e : xs = xs.take i ++ xs.drop i := (List.take_append_drop i xs).symm
  conv => lhs; rw [e]
  rw [partsR, List.foldl_append]
  exact partsS_stop _ _ h
theorem partsS_ge {lf : Nat} : ∀ (xs : List Ltr) (n : Nat), xs.foldl (partsS lf) n ≤ lf → n + xs.length + (xs.flatMap ltrT).length ≤ xs.foldl (partsS lf) n := by
  intro xs
  induction xs with
  | nil => intro n _; simp
  | cons x xs ih =>
    intro n h
    by_cases hn : n ≤ lf
    · have h2 := h
      rw [List.foldl_cons] at h2 ⊢
      have h3 := ih _ h2
      have h4 : partsS lf n x ≤ lf := by omega
      have h5 : 1 + (ltrT x).length + n ≤ partsS lf n x := by
        unfold partsS at h4 ⊢
        rw [if_pos hn] at h4 ⊢
        have := partsL_ge (x := x) (lf := lf - n) (by omega)
        omega
      simp only [List.length_cons, List.flatMap_cons, List.length_append]; omega
    · rw [partsS_stop _ _ (by omega)] at h; omega
theorem partsS_le {lf : Nat} : ∀ (xs : List Ltr) (n : Nat), xs.foldl (partsS lf) n ≤ n + lf + 1 := by
  intro xs
  induction xs with
  | nil => intro n; simp; omega
  | cons x xs ih =>
    intro n
    rw [List.foldl_cons]
    by_cases hn : n ≤ lf
    · by_cases h2 : partsS lf n x ≤ lf
      · have := ih (partsS lf n x)
        by_cases h3 : xs.foldl (partsS lf) (partsS lf n x) ≤ lf
        · omega
        · have key : ∀ (xs : List Ltr) (m : Nat), m ≤ lf + 1 → xs.foldl (partsS lf) m ≤ lf + 1 := by
            intro xs
            induction xs with
            | nil => intro m h; exact h
            | cons x xs ih =>
              intro m h
              rw [List.foldl_cons]
              refine ih _ ?_
              unfold partsS
              split
              · have := partsL_le x (lf - m); omega
              · exact h
          have := key xs _ (show partsS lf n x ≤ lf + 1 by omega)
          omega
      · rw [partsS_stop _ _ (by omega)]
        unfold partsS
        rw [if_pos hn]
        have := partsL_le x (lf - n); omega
    · rw [partsS, if_neg hn, partsS_stop _ _ (by omega)]; omega
def bsum : List Rul → Nat → Bool
  | [], _ => false
  | r :: rs, n => if 1048576 < n + partsR r 1048576 r.body then true else bsum rs (n + partsR r 1048576 r.body)
def beyondB (rs : List Rul) : Bool := bsum rs 0
theorem bsum_at {rs : List Rul} {i n : Nat} {x : Rul} (hx : rs[i]? = some x) : bsum (rs.drop i) n = if 1048576 < n + partsR x 1048576 x.body then true else bsum (rs.drop (i + 1)) (n + partsR x 1048576 x.body) := by
  obtain ⟨h1, h2⟩ := List.getElem?_eq_some_iff.1 hx
  rw [List.drop_eq_getElem_cons h1, h2, bsum]
theorem heads_len (l : List Agr) : (l.flatMap fun a => [a.term]).length = l.length := by
  induction l with
  | nil => rfl
  | cons a l ih => simp only [List.flatMap_cons, List.length_append, List.length_cons, List.length_nil, ih]; omega
theorem bsum_bnd : ∀ (rs : List Rul) (n : Nat), n ≤ 1048576 → bsum rs n = false → (∀ r ∈ rs, (rulT r).length ≤ 1048576) ∧ n + rs.length + (rs.flatMap Rul.body).length ≤ 1048576 := by
  intro rs
  induction rs with
  | nil => intro n hn _; exact ⟨fun r h => (by cases h), by simpa using hn⟩
  | cons r rs ih =>
    intro n hn h
    rw [bsum] at h
    split at h
    · cases h
    · rename_i h0
      obtain ⟨h1, h2⟩ := ih _ (by omega) h
      have h3 := partsS_ge r.body (1 + r.head.length) (lf := 1048576) (by have : r.body.foldl (partsS 1048576) (1 + r.head.length) = partsR r 1048576 r.body := rfl; omega)
      have h4 : r.body.foldl (partsS 1048576) (1 + r.head.length) = partsR r 1048576 r.body := rfl
      have h5 := heads_len r.head
      refine ⟨fun q hq => ?_, ?_⟩
      · rcases List.mem_cons.1 hq with rfl | hq
        · simp only [rulT, List.length_append]; omega
        · exact h1 q hq
      · simp only [List.flatMap_cons, List.length_append, List.length_cons]; omega
theorem Bnd.of {rs : List Rul} (h : beyondB rs = false) : Bnd rs := by
  obtain ⟨h1, h2⟩ := bsum_bnd rs 0 (by omega) h
  refine ⟨fun r hr => Nat.lt_of_le_of_lt (h1 r hr) (by decide), ?_⟩
  cases rs with
  | nil => simp
  | cons r rs => simp only [List.length_cons] at h2; omega
theorem ExprParts_spec {Z : Nat → Prop} {w0 w : World} {L : List Res} (st : St Z w0 w L) (e : Exp) (kv : Value) (hk : rExp.sl Z w0 kv e.kids) (lf : Nat) (hlm : lf ≤ 1048576) : Calls Tryz.prog 65 #[(.agg #[(.int .i8 (e.op)), (.string e.term.var), (.int .i8 (e.term.val.kind)), (.int .i64 (e.term.val.num)), (.string e.term.val.text), kv]), (ni lf)] w (Ret fun r w' => r = .int .i64 ((partsE e lf : Nat) : Int) ∧ St Z w0 w' L) := by
 refine calls_of_WC (m := 75) (rs := [.tmp 4]) Tryz.func65 rfl rfl rfl rfl ?_
 refine Wsr ?_
 refine W1 (OpT.box st (.agg #[(.int .i8 (e.op)), (.string e.term.var), (.int .i8 (e.term.val.kind)), (.int .i64 (e.term.val.num)), (.string e.term.val.text), kv]) [(.int .i8 (e.op)), (.string e.term.var), (.int .i8 (e.term.val.kind)), (.int .i64 (e.term.val.num)), (.string e.term.val.text), kv] rfl rfl (fun b1 w2 st3 => ?_))
 refine W1 (OpT.assign (ii 0) rfl ?_)
 refine Wns ?_
 refine W1 (OpT.assign (ii 0) rfl ?_)
 refine Wns ?_
 refine W1 (OpT.loadA ⟨b1, 0, none⟩ 6 [(.int .i8 (e.op)), (.string e.term.var), (.int .i8 (e.term.val.kind)), (.int .i64 (e.term.val.num)), (.string e.term.val.text), kv] ta72 ts72 rfl ((st3.rowB (i := 0) rfl).part 0 6) rfl ?_)
 refine W1 (OpT.buildSlice st3 [(0, (.agg #[(.int .i8 (e.op)), (.string e.term.var), (.int .i8 (e.term.val.kind)), (.int .i64 (e.term.val.num)), (.string e.term.val.text), kv]))] [(.int .i8 (e.op)), (.string e.term.var), (.int .i8 (e.term.val.kind)), (.int .i64 (e.term.val.num)), (.string e.term.val.text), kv] tu70 ts72 tz72 (mp1 rfl) (by kernel_rfl) (by decide) (fun b4 w5 st6 => ?_))
 refine W1 (OpT.assign (.slice (some ⟨b4, 0, none⟩) 1 1) rfl ?_)
 refine Wnt ?_
 refine WC.seq ?_
 refine Wsr ?_
 refine W1 (OpT.assign (ii 0) rfl ?_)
 refine Wnt ?_
 refine WC.block ?_
 obtain ⟨Z2, hz2, hw2, hr2, st2, bk2⟩ := St.freezeB (st6 : St Z w0 w5 (Blk b4 72 [(.int .i8 (e.op)), (.string e.term.var), (.int .i8 (e.term.val.kind)), (.int .i64 (e.term.val.num)), (.string e.term.val.text), kv] :: Blk b1 72 [(.int .i8 (e.op)), (.string e.term.var), (.int .i8 (e.term.val.kind)), (.int .i64 (e.term.val.num)), (.string e.term.val.text), kv] :: L))
 have hx2 : Ext Z w0 Z2 w5 := ⟨hz2, hw2, fun w' L' h => (bk2 w' L' h).tl⟩
 have hs2 := fresh_exp hr2 (rExp_mk (hx2.sl hk))
 have st7 : St Z2 w5 w5 (L) := St.selT [Blk b1 72 [(.int .i8 (e.op)), (.string e.term.var), (.int .i8 (e.term.val.kind)), (.int .i64 (e.term.val.num)), (.string e.term.val.text), kv]] [] rfl (by decide) st2
 refine WC.loop (fun m ρ wz => ∃ (d : Nat), ∃ (n : Nat), ∃ (xs : List Exp), ∃ (Z1 : Nat → Prop), ∃ (w1 : World), ∃ (lv : Value), m = 65537 - d ∧ d ≤ 65536 ∧ n ≤ lf ∧ Ext Z w0 Z1 w1 ∧ rExp.sl Z1 w1 lv xs ∧ lvls (65536 - d) n xs lf = partsE e lf ∧ ρ 5 = (ni n) ∧ ρ 6 = lv ∧ ρ 7 = (ni d) ∧ ρ 1 = (ni lf) ∧ St Z1 w1 wz (L)) _ ⟨0, 0, [e], Z2, w5, (.slice (some ⟨b4, 0, none⟩) 1 1), rfl, by omega, by omega, hx2, hs2, rfl, rfl, rfl, rfl, rfl, st7⟩ ?_
 rintro m8 ρ9 w10 ⟨d, n, xs, Z1, w1, lv, hm18, hp12, hp13, hx, hs, HT, hs14, hs15, hs16, hs17, st11⟩
 have hxl := Rl.sl_le hs
 refine WC.seq ?_
 refine Wsr ?_
 refine W1 (OpT.move lv hs15 ?_)
 refine W1 (OpT.lenR rfl tu70 hs rfl ?_)
 refine W1 (OpT.igt .i64 (((xs.length : Nat) : Int)) (0) rfl rfl ?_)
 refine Wnt ?_
 refine WC.condP (0 < ((xs.length : Nat) : Int)) rfl (fun h19 => ?_) (fun h19 => ?_)
 ·refine WC.skip ?_
  refine thenQ_n ?_
  refine WC.seq ?_
  refine WC.block ?_
  refine Wsr ?_
  refine W1 (OpT.move (ni n) hs14 ?_)
  refine W1 (OpT.move lv hs15 ?_)
  refine W1 (OpT.lenR rfl tu70 hs rfl ?_)
  refine W1 (OpT.iadd .i64 (((n : Nat) : Int)) (((xs.length : Nat) : Int)) (((n + xs.length : Nat) : Int)) rfl rfl (wadd (a := n) (b := xs.length) (by omega)) ?_)
  refine W1 (OpT.assign (ni (n + xs.length)) rfl ?_)
  refine Wnt ?_
  refine WC.seq ?_
  refine Wsr ?_
  refine W1 (OpT.move (ni (n + xs.length)) rfl ?_)
  refine W1 (OpT.move (ni lf) hs17 ?_)
  refine W1 (OpT.igt .i64 (((n + xs.length : Nat) : Int)) (((lf : Nat) : Int)) rfl rfl ?_)
  refine W1 (OpT.move (.bool (decide (((lf : Nat) : Int) < ((n + xs.length : Nat) : Int)))) rfl ?_)
  by_cases h20 : ((lf : Nat) : Int) < ((n + xs.length : Nat) : Int)
  ·refine WL.pass (dj := 25) (c := true) rfl rfl rfl (bT h20) rfl ?_
   refine WL.pass (dj := 25) (c := true) rfl rfl rfl (bT h20) rfl ?_
   refine W1 (OpT.pickT (.bool true) (bT h20) rfl ?_)
   refine Wnt ?_
   refine WC.condT rfl ?_
   refine Wsr ?_
   refine W1 (OpT.move (ni lf) hs17 ?_)
   refine W1 (OpT.iadd .i64 (((lf : Nat) : Int)) (1) (((lf + 1 : Nat) : Int)) rfl rfl (wadd (a := lf) (b := 1) (by omega)) ?_)
   refine W1 (OpT.assign (ni (lf + 1)) rfl ?_)
   refine Wnt ?_
   refine WC.ret <| thenQ_r <| blkQ_r <| thenQ_r <| loopQ_r <| blkQ_r <| thenQ_r <| retQ.one (ni (lf + 1)) rfl ?_
   rw [lvls_kids (by omega) (by omega)] at HT
   exact ⟨_, rfl, by rw [← HT], (hx.back st11)⟩
  refine W2 (dj := 25) (bF h20) (OpT.move (ni d) hs16 ?_)
  refine W2 (dj := 25) (bF h20) (OpT.ige .i64 (((d : Nat) : Int)) (65536) rfl rfl ?_)
  refine W1 (OpT.pickF (.bool (decide (65536 ≤ ((d : Nat) : Int)))) (bF h20) rfl ?_)
  refine Wnt ?_
  refine WC.condP (65536 ≤ ((d : Nat) : Int)) rfl (fun h21 => ?_) (fun h21 => ?_)
  ·refine WC.seq ?_
   refine WC.region ?_
   refine W1 (OpT.move (ni lf) hs17 ?_)
   refine W1 (OpT.iadd .i64 (((lf : Nat) : Int)) (1) (((lf + 1 : Nat) : Int)) rfl rfl (wadd (a := lf) (b := 1) (by omega)) ?_)
   refine W1 (OpT.assign (ni (lf + 1)) rfl ?_)
   refine Wnt ?_
   refine WC.ret <| thenQ_r <| blkQ_r <| thenQ_r <| loopQ_r <| blkQ_r <| thenQ_r <| retQ.one (ni (lf + 1)) rfl ?_
   rw [show 65536 - d = 0 by omega] at HT
   rw [lvls_deep (by omega)] at HT
   exact ⟨_, rfl, by rw [← HT], (hx.back st11)⟩
  refine WC.skip ?_
  refine thenQ_n ?_
  refine Wsr ?_
  refine W1 (OpT.assign vn rfl ?_)
  refine Wnt ?_
  refine WC.seq ?_
  refine Wsr ?_
  refine W1 (OpT.assign (ii 0) rfl ?_)
  refine Wnt ?_
  refine WC.block ?_
  have st22 : St Z1 w1 w10 (Row 72 6 vn ([] : List Exp).length [] :: L) := st11.rowNil 72 6
  refine WC.loop (fun m ρ wz => ∃ (i : Nat), ∃ (lv2 : Value), ∃ (cs2 : List Value), m = xs.length - i ∧ i ≤ xs.length ∧ RowsOf (rExp.R Z1 w1) 6 cs2 ((xs.take i).flatMap Exp.kids) ∧ n + xs.length + ((xs.take i).flatMap Exp.kids).length ≤ lf ∧ ρ 8 = lv2 ∧ ρ 9 = (ni i) ∧ ρ 1 = (ni lf) ∧ ρ 5 = (ni (n + xs.length)) ∧ ρ 6 = lv ∧ ρ 7 = (ni d) ∧ St Z1 w1 wz (Row 72 6 lv2 ((xs.take i).flatMap Exp.kids).length cs2 :: L)) _ ⟨0, vn, [], rfl, by omega, RowsOf.nil, by simp only [List.take_zero, List.flatMap_nil, List.length_nil]; omega, rfl, rfl, hs17, rfl, hs15, hs16, st22⟩ ?_
  rintro m23 ρ24 w25 ⟨i, lv2, cs2, hm34, hp27, HR, hcn, hs29, hs28, hs30, hs31, hs32, hs33, st26⟩
  have olv2 := st26.rowOne (i := 0) rfl
  have clv2 := st26.rowCel (i := 0) rfl
  refine WC.seq ?_
  refine Wsr ?_
  refine W1 (OpT.move (ni i) hs28 ?_)
  refine W1 (OpT.move lv hs32 ?_)
  refine W1 (OpT.lenR rfl tu70 hs rfl ?_)
  refine W1 (OpT.ilt .i64 (((i : Nat) : Int)) (((xs.length : Nat) : Int)) rfl rfl ?_)
  refine Wnt ?_
  refine WC.condP (((i : Nat) : Int) < ((xs.length : Nat) : Int)) rfl (fun h35 => ?_) (fun h35 => ?_)
  ·refine WC.skip ?_
   refine thenQ_n ?_
   refine WC.seq ?_
   refine WC.block ?_
   refine WC.seq ?_
   refine Wsr ?_
   refine W1 (OpT.move (ni (n + xs.length)) hs31 ?_)
   refine W1 (OpT.move lv2 hs29 ?_)
   refine W1 (OpT.lenRow st26 0 rfl rfl tu70 rfl ?_)
   refine W1 (OpT.iadd .i64 (((n + xs.length : Nat) : Int)) (((((xs.take i).flatMap Exp.kids).length : Nat) : Int)) (((n + xs.length + ((xs.take i).flatMap Exp.kids).length : Nat) : Int)) rfl rfl (wadd (a := n + xs.length) (b := ((xs.take i).flatMap Exp.kids).length) (by omega)) ?_)
   refine W1 (OpT.move lv hs32 ?_)
   refine W1 (OpT.move (ni i) hs28 ?_)
   obtain ⟨x36, hx36⟩ : ∃ x, (xs)[i]? = some x := ⟨_, List.getElem?_eq_getElem (by omega)⟩
   refine W1 (OpT.idxX tu70 ts72 hs rfl .i64 (i) rfl hx36 (fun ad37 cs38 hr39 hR40 => ?_))
   have hR40c := hR40
   obtain ⟨kv41, rfl, hk42⟩ := rExp_kids hR40
   have hR40l := Rl.sl_le hk42
   refine W1 (OpT.field 5 ad37 (ad37.add 5) tf72_2 rfl rfl ?_)
   refine W1 (OpT.loadS (ad37.add 5) kv41 ta70 rfl (hr39.cell st26 (j := 5) rfl) ?_)
   refine W1 (OpT.lenR rfl tu70 hk42 rfl ?_)
   refine W1 (OpT.iadd .i64 (((n + xs.length + ((xs.take i).flatMap Exp.kids).length : Nat) : Int)) (((x36.kids.length : Nat) : Int)) (((n + xs.length + ((xs.take i).flatMap Exp.kids).length + x36.kids.length : Nat) : Int)) rfl rfl (wadd (a := n + xs.length + ((xs.take i).flatMap Exp.kids).length) (b := x36.kids.length) (by omega)) ?_)
   refine W1 (OpT.move (ni lf) hs30 ?_)
   refine W1 (OpT.igt .i64 (((n + xs.length + ((xs.take i).flatMap Exp.kids).length + x36.kids.length : Nat) : Int)) (((lf : Nat) : Int)) rfl rfl ?_)
   refine Wnt ?_
   refine WC.condP (((lf : Nat) : Int) < ((n + xs.length + ((xs.take i).flatMap Exp.kids).length + x36.kids.length : Nat) : Int)) rfl (fun h43 => ?_) (fun h43 => ?_)
   ·refine WC.seq ?_
    refine WC.region ?_
    refine W1 (OpT.move (ni lf) hs30 ?_)
    refine W1 (OpT.iadd .i64 (((lf : Nat) : Int)) (1) (((lf + 1 : Nat) : Int)) rfl rfl (wadd (a := lf) (b := 1) (by omega)) ?_)
    refine W1 (OpT.assign (ni (lf + 1)) rfl ?_)
    refine Wnt ?_
    refine WC.ret <| thenQ_r <| blkQ_r <| thenQ_r <| loopQ_r <| blkQ_r <| thenQ_r <| blkQ_r <| thenQ_r <| loopQ_r <| blkQ_r <| thenQ_r <| retQ.one (ni (lf + 1)) rfl ?_
    have hfk := flat_at Exp.kids hx36
    rw [lvls_kids (by omega) (by omega)] at HT
    exact ⟨_, rfl, by rw [← HT], (hx.back (St.selT [Row 72 6 lv2 ((xs.take i).flatMap Exp.kids).length cs2] [] rfl (by decide) st26))⟩
   refine WC.skip ?_
   refine thenQ_n ?_
   refine Wsr ?_
   refine W1 (OpT.assign (ii 0) rfl ?_)
   refine Wnt ?_
   refine WC.block ?_
   have st44 : St Z1 w1 w25 (Row 72 6 lv2 (((xs.take i).flatMap Exp.kids) ++ x36.kids.take 0).length cs2 :: L) := by rw [List.take_zero, List.append_nil]; exact st26
   refine WC.loop (fun m ρ wz => ∃ (k : Nat), ∃ (lv3 : Value), ∃ (cs3 : List Value), m = x36.kids.length - k ∧ k ≤ x36.kids.length ∧ RowsOf (rExp.R Z1 w1) 6 cs3 (((xs.take i).flatMap Exp.kids) ++ x36.kids.take k) ∧ ρ 8 = lv3 ∧ ρ 10 = (ni k) ∧ ρ 1 = (ni lf) ∧ ρ 5 = (ni (n + xs.length)) ∧ ρ 6 = lv ∧ ρ 7 = (ni d) ∧ ρ 9 = (ni i) ∧ St Z1 w1 wz (Row 72 6 lv3 (((xs.take i).flatMap Exp.kids) ++ x36.kids.take k).length cs3 :: L)) _ ⟨0, lv2, cs2, rfl, by omega, by rw [List.take_zero, List.append_nil]; exact HR, hs29, rfl, hs30, hs31, hs32, hs33, hs28, st44⟩ ?_
   rintro m45 ρ46 w47 ⟨k, lv3, cs3, hm57, hp49, HR3, hs51, hs50, hs52, hs53, hs54, hs55, hs56, st48⟩
   have olv3 := st48.rowOne (i := 0) rfl
   have clv3 := st48.rowCel (i := 0) rfl
   have hck : (((xs.take i).flatMap Exp.kids) ++ x36.kids.take k).length ≤ ((xs.take i).flatMap Exp.kids).length + k := by simp only [List.length_append, List.length_take]; omega
   have hce : (((xs.take i).flatMap Exp.kids) ++ x36.kids.take k).length = ((xs.take i).flatMap Exp.kids).length + min k x36.kids.length := by simp only [List.length_append, List.length_take]
   refine WC.seq ?_
   refine Wsr ?_
   refine W1 (OpT.move (ni k) hs50 ?_)
   refine W1 (OpT.move lv hs54 ?_)
   refine W1 (OpT.move (ni i) hs56 ?_)
   refine W1 (OpT.idxX tu70 ts72 hs rfl .i64 (i) rfl hx36 (fun ad59 cs60 hr61 hR62 => ?_))
   have hR62c := hR62
   obtain ⟨kv63, rfl, hk64⟩ := rExp_kids hR62
   have hR62l := Rl.sl_le hk64
   refine W1 (OpT.field 5 ad59 (ad59.add 5) tf72_2 rfl rfl ?_)
   refine W1 (OpT.loadS (ad59.add 5) kv63 ta70 rfl (hr61.cell st48 (j := 5) rfl) ?_)
   refine W1 (OpT.lenR rfl tu70 hk64 rfl ?_)
   refine W1 (OpT.ilt .i64 (((k : Nat) : Int)) (((x36.kids.length : Nat) : Int)) rfl rfl ?_)
   refine Wnt ?_
   refine WC.condP (((k : Nat) : Int) < ((x36.kids.length : Nat) : Int)) rfl (fun h65 => ?_) (fun h65 => ?_)
   ·refine WC.skip ?_
    refine thenQ_n ?_
    refine WC.seq ?_
    refine WC.block ?_
    refine WC.region ?_
    refine W1 (OpT.move lv3 hs51 ?_)
    refine W1 (OpT.move lv hs54 ?_)
    refine W1 (OpT.move (ni i) hs56 ?_)
    refine W1 (OpT.idxX tu70 ts72 hs rfl .i64 (i) rfl hx36 (fun ad67 cs68 hr69 hR70 => ?_))
    have hR70c := hR70
    obtain ⟨kv71, rfl, hk72⟩ := rExp_kids hR70
    have hR70l := Rl.sl_le hk72
    refine W1 (OpT.field 5 ad67 (ad67.add 5) tf72_2 rfl rfl ?_)
    refine W1 (OpT.loadS (ad67.add 5) kv71 ta70 rfl (hr69.cell st48 (j := 5) rfl) ?_)
    refine W1 (OpT.move (ni k) hs50 ?_)
    obtain ⟨x73, hx73⟩ : ∃ x, (x36.kids)[k]? = some x := ⟨_, List.getElem?_eq_getElem (by omega)⟩
    refine W1 (OpT.idxX tu70 ts72 hk72 rfl .i64 (k) rfl hx73 (fun ad74 cs75 hr76 hR77 => ?_))
    have hR77c := hR77
    obtain ⟨kv78, rfl, hk79⟩ := rExp_kids hR77
    have hR77l := Rl.sl_le hk79
    refine W1 (OpT.loadA ad74 6 [(.int .i8 (x73.op)), (.string x73.term.var), (.int .i8 (x73.term.val.kind)), (.int .i64 (x73.term.val.num)), (.string x73.term.val.text), kv78] ta72 ts72 rfl ((hr76.at st48).part 0 6) rfl ?_)
    refine W1 (OpT.buildSlice st48 [(0, (.agg #[(.int .i8 (x73.op)), (.string x73.term.var), (.int .i8 (x73.term.val.kind)), (.int .i64 (x73.term.val.num)), (.string x73.term.val.text), kv78]))] [(.int .i8 (x73.op)), (.string x73.term.var), (.int .i8 (x73.term.val.kind)), (.int .i64 (x73.term.val.num)), (.string x73.term.val.text), kv78] tu70 ts72 tz72 (mp1 rfl) (by kernel_rfl) (by decide) (fun b80 w81 st82 => ?_))
    have st83 : St Z1 w1 w81 (Blk b80 72 [(.int .i8 (x73.op)), (.string x73.term.var), (.int .i8 (x73.term.val.kind)), (.int .i64 (x73.term.val.num)), (.string x73.term.val.text), kv78] :: Row 72 6 lv3 (((xs.take i).flatMap Exp.kids) ++ x36.kids.take k).length cs3 :: L) := St.selT [Blk b80 72 [(.int .i8 (x73.op)), (.string x73.term.var), (.int .i8 (x73.term.val.kind)), (.int .i64 (x73.term.val.num)), (.string x73.term.val.text), kv78], Row 72 6 lv3 (((xs.take i).flatMap Exp.kids) ++ x36.kids.take k).length cs3] [0, 1] rfl (by decide) st82
    refine W1 (OpT.append st83 1 tu70 ts72 tz72 rfl tb72 (by decide) rfl rfl rfl (aC rfl (aC rfl (aC rfl (aC rfl (aC rfl (aC (Rl.sl_one hk79) aN)))))) (by omega) (by omega) (fun v84 w85 st86 hn87 => ?_))
    have o88 := st86.rowOne (i := 0) rfl
    have c89 := st86.rowCel (i := 0) rfl
    refine W1 (OpT.assign v84 rfl ?_)
    refine WL.nil ?_
    refine blkQ_n ?_
    refine thenQ_n ?_
    refine WC.region ?_
    refine W1 (OpT.move (ni k) hs50 ?_)
    refine W1 (OpT.iadd .i64 (((k : Nat) : Int)) (1) (((k + 1 : Nat) : Int)) rfl rfl (wadd (a := k) (b := 1) (by omega)) ?_)
    refine W1 (OpT.assign (ni (k + 1)) rfl ?_)
    refine WL.nil ?_
    have e91 : (((xs.take i).flatMap Exp.kids) ++ x36.kids.take (k + 1)) = (((xs.take i).flatMap Exp.kids) ++ x36.kids.take k) ++ [x73] := by rw [List.take_add_one, hx73, List.append_assoc]; rfl
    have st90 : St Z1 w1 w85 (Row 72 6 v84 (((xs.take i).flatMap Exp.kids) ++ x36.kids.take (k + 1)).length (cs3 ++ [(.int .i8 (x73.op)), (.string x73.term.var), (.int .i8 (x73.term.val.kind)), (.int .i64 (x73.term.val.num)), (.string x73.term.val.text), kv78]) :: L) := by rw [e91, List.length_append]; exact st86
    exact loopQ_n _ (by omega) ⟨k + 1, v84, (cs3 ++ [(.int .i8 (x73.op)), (.string x73.term.var), (.int .i8 (x73.term.val.kind)), (.int .i64 (x73.term.val.num)), (.string x73.term.val.text), kv78]), rfl, by omega, by rw [e91]; exact HR3.snoc rfl hR77c, rfl, rfl, hs52, hs53, hs54, hs55, hs56, st90⟩
   refine WC.exit ?_
   refine thenQ_x ?_
   refine loopQ_x ?_
   refine blkQ_hit ?_
   refine blkQ_n ?_
   refine thenQ_n ?_
   refine WC.region ?_
   refine W1 (OpT.move (ni i) hs56 ?_)
   refine W1 (OpT.iadd .i64 (((i : Nat) : Int)) (1) (((i + 1 : Nat) : Int)) rfl rfl (wadd (a := i) (b := 1) (by omega)) ?_)
   refine W1 (OpT.assign (ni (i + 1)) rfl ?_)
   refine WL.nil ?_
   have e93 : (xs.take (i + 1)).flatMap Exp.kids = (((xs.take i).flatMap Exp.kids) ++ x36.kids.take k) := by rw [List.take_of_length_le (by omega : x36.kids.length ≤ k), List.take_add_one, hx36, List.flatMap_append]; simp
   have st92 : St Z1 w1 w47 (Row 72 6 lv3 ((xs.take (i + 1)).flatMap Exp.kids).length cs3 :: L) := by rw [e93]; exact st48
   exact loopQ_n _ (by omega) ⟨i + 1, lv3, cs3, rfl, by omega, by rw [e93]; exact HR3, by rw [e93]; omega, hs51, rfl, hs52, hs53, hs54, hs55, st92⟩
  refine WC.exit ?_
  refine thenQ_x ?_
  refine loopQ_x ?_
  refine blkQ_hit ?_
  refine thenQ_n ?_
  refine WC.region ?_
  refine W1 (OpT.move lv2 hs29 ?_)
  refine W1 (OpT.assign lv2 rfl ?_)
  refine WL.nil ?_
  refine blkQ_n ?_
  refine thenQ_n ?_
  refine WC.region ?_
  refine W1 (OpT.move (ni d) hs33 ?_)
  refine W1 (OpT.iadd .i64 (((d : Nat) : Int)) (1) (((d + 1 : Nat) : Int)) rfl rfl (wadd (a := d) (b := 1) (by omega)) ?_)
  refine W1 (OpT.assign (ni (d + 1)) rfl ?_)
  refine WL.nil ?_
  have eT : xs.take i = xs := List.take_of_length_le (by omega)
  rw [eT] at HR hcn
  obtain ⟨Z3, hx3, hs3, st3⟩ := St.freezeRow (r := rExp) (xs := xs.flatMap Exp.kids) (show St Z1 w1 w25 (Row 72 6 lv2 (xs.flatMap Exp.kids).length cs2 :: L) from eT ▸ st26) (by omega) HR.2
  obtain ⟨f, hf⟩ : ∃ f, 65536 - d = f + 1 := ⟨65536 - d - 1, by omega⟩
  rw [hf, lvls_go (by omega) (by omega), show f = 65536 - (d + 1) by omega] at HT
  exact loopQ_n _ (by omega) ⟨d + 1, n + xs.length, xs.flatMap Exp.kids, Z3, w25, lv2, rfl, by omega, by omega, hx.trans hx3, hs3, HT, hs31, rfl, rfl, hs30, st3⟩
 refine WC.exit ?_
 refine thenQ_x ?_
 refine loopQ_x ?_
 refine blkQ_hit ?_
 refine thenQ_n ?_
 refine Wsr ?_
 refine W1 (OpT.move (ni n) hs14 ?_)
 refine W1 (OpT.assign (ni n) rfl ?_)
 refine Wnt ?_
 refine WC.ret <| retQ.one (ni n) rfl ?_
 rw [lvls_end (by omega)] at HT
 exact ⟨_, rfl, by rw [← HT], (hx.back st11)⟩

theorem literalParts_spec {Z : Nat → Prop} {w0 w : World} {L : List Res} (st : St Z w0 w L) (x : Ltr) (av lk rk : Value) (ha : rTrm.sl Z w0 av x.atom.args) (hl : rExp.sl Z w0 lk x.left.kids) (hr : rExp.sl Z w0 rk x.right.kids) (lf : Nat) (hlm : lf ≤ 1048576) : Calls Tryz.prog 41 #[(.agg #[(.int .i8 (x.kind)), (.string x.atom.pred), av, (.int .i8 (x.rel)), (.int .i8 (x.left.op)), (.string x.left.term.var), (.int .i8 (x.left.term.val.kind)), (.int .i64 (x.left.term.val.num)), (.string x.left.term.val.text), lk, (.int .i8 (x.right.op)), (.string x.right.term.var), (.int .i8 (x.right.term.val.kind)), (.int .i64 (x.right.term.val.num)), (.string x.right.term.val.text), rk]), (ni lf)] w (Ret fun r w' => r = .int .i64 ((partsL x lf : Nat) : Int) ∧ St Z w0 w' L) := by
 have hal := Rl.sl_le ha
 have hpl := partsE_le x.left lf
 have hpr := partsE_le x.right (lf - (1 + x.atom.args.length + partsE x.left lf))
 refine calls_of_WC (m := 29) (rs := [.tmp 4]) Tryz.func41 rfl rfl rfl rfl ?_
 refine Wsr ?_
 refine W1 (OpT.box st (.agg #[(.int .i8 (x.kind)), (.string x.atom.pred), av, (.int .i8 (x.rel)), (.int .i8 (x.left.op)), (.string x.left.term.var), (.int .i8 (x.left.term.val.kind)), (.int .i64 (x.left.term.val.num)), (.string x.left.term.val.text), lk, (.int .i8 (x.right.op)), (.string x.right.term.var), (.int .i8 (x.right.term.val.kind)), (.int .i64 (x.right.term.val.num)), (.string x.right.term.val.text), rk]) [(.int .i8 (x.kind)), (.string x.atom.pred), av, (.int .i8 (x.rel)), (.int .i8 (x.left.op)), (.string x.left.term.var), (.int .i8 (x.left.term.val.kind)), (.int .i64 (x.left.term.val.num)), (.string x.left.term.val.text), lk, (.int .i8 (x.right.op)), (.string x.right.term.var), (.int .i8 (x.right.term.val.kind)), (.int .i64 (x.right.term.val.num)), (.string x.right.term.val.text), rk] rfl rfl (fun b1 w2 st3 => ?_))
 refine W1 (OpT.assign (ii 0) rfl ?_)
 refine Wnt ?_
 refine WC.seq ?_
 refine WC.draw 11 (fun jj vv => match jj with | 0 => vv = (pt b1 1) | 1 => vv = (pt b1 2) | 2 => vv = av | 3 => vv = (ni (x.atom.args.length)) | 4 => vv = (ni (1 + x.atom.args.length)) | 5 => vv = (pt b1 4) | 6 => vv = (.agg #[(.int .i8 (x.left.op)), (.string x.left.term.var), (.int .i8 (x.left.term.val.kind)), (.int .i64 (x.left.term.val.num)), (.string x.left.term.val.text), lk]) | 7 => vv = (ni lf) | 8 => vv = (.int .i64 ((((partsE x.left lf) : Nat) : Int))) | 9 => vv = (.int .i64 (((1 + x.atom.args.length + (partsE x.left lf) : Nat) : Int))) | 10 => vv = (.int .i64 (((1 + x.atom.args.length + (partsE x.left lf) : Nat) : Int))) | _ => True) (fun _ _ => []) st3 fmix (by kernel_rfl) ((obS (obS (obS (obS (obS (obS (obS (obS (obS (obS (obS ob0 ?_) ?_) ?_) ?_) ?_) ?_) ?_) ?_) ?_) ?_) ?_)) ?_
 ·intro vals ρ w5 X hd h0 st4
  have e6 : ρ 2 = (pt b1 0) := (h0 2 rfl).trans rfl
  refine W1 (OpT.field 1 ⟨b1, 0, none⟩ ⟨b1, 1, none⟩ tf74_1 e6 rfl ?_)
  refine WL.nil ?_
  exact oneQ.mk ⟨rfl, st4⟩
 ·intro vals ρ w8 X hd h0 st7
  have e9 : ρ 6 = (pt b1 1) := ((hd 0 rfl).2 6 rfl).trans (hd 0 rfl).1
  refine W1 (OpT.field 1 ⟨b1, 1, none⟩ ⟨b1, 2, none⟩ tf62_1 e9 rfl ?_)
  refine WL.nil ?_
  exact oneQ.mk ⟨rfl, st7⟩
 ·intro vals ρ w11 X hd h0 st10
  have e12 : ρ 7 = (pt b1 2) := ((hd 1 rfl).2 7 rfl).trans (hd 1 rfl).1
  refine W1 (OpT.loadS ⟨b1, 2, none⟩ av ta60 e12 (st10.cellB (i := 0) rfl rfl) ?_)
  refine WL.nil ?_
  exact oneQ.mk ⟨rfl, st10⟩
 ·intro vals ρ w14 X hd h0 st13
  have e15 : ρ 8 = av := ((hd 2 rfl).2 8 rfl).trans (hd 2 rfl).1
  refine W1 (OpT.lenR rfl tu60 ha e15 ?_)
  refine WL.nil ?_
  exact oneQ.mk ⟨rfl, st13⟩
 ·intro vals ρ w17 X hd h0 st16
  have e18 : ρ 9 = (ni (x.atom.args.length)) := ((hd 3 rfl).2 9 rfl).trans (hd 3 rfl).1
  refine W1 (OpT.iadd .i64 (1) (((x.atom.args.length : Nat) : Int)) (((1 + x.atom.args.length : Nat) : Int)) rfl e18 (wadd (a := 1) (b := x.atom.args.length) (by omega)) ?_)
  refine WL.nil ?_
  exact oneQ.mk ⟨rfl, st16⟩
 ·intro vals ρ w20 X hd h0 st19
  have e21 : ρ 2 = (pt b1 0) := (h0 2 rfl).trans rfl
  refine W1 (OpT.field 4 ⟨b1, 0, none⟩ ⟨b1, 4, none⟩ tf74_3 e21 rfl ?_)
  refine WL.nil ?_
  exact oneQ.mk ⟨rfl, st19⟩
 ·intro vals ρ w23 X hd h0 st22
  have e24 : ρ 11 = (pt b1 4) := ((hd 5 rfl).2 11 rfl).trans (hd 5 rfl).1
  refine W1 (OpT.loadA ⟨b1, 4, none⟩ 6 [(.int .i8 (x.left.op)), (.string x.left.term.var), (.int .i8 (x.left.term.val.kind)), (.int .i64 (x.left.term.val.num)), (.string x.left.term.val.text), lk] ta72 ts72 e24 ((st22.rowB (i := 0) rfl).part 4 6) rfl ?_)
  refine WL.nil ?_
  exact oneQ.mk ⟨rfl, st22⟩
 ·intro vals ρ w26 X hd h0 st25
  have e27 : ρ 1 = (ni lf) := (h0 1 rfl).trans rfl
  refine W1 (OpT.move (ni lf) e27 ?_)
  refine WL.nil ?_
  exact oneQ.mk ⟨rfl, st25⟩
 ·intro vals ρ w29 X hd h0 st28
  have e30 : ρ 12 = (.agg #[(.int .i8 (x.left.op)), (.string x.left.term.var), (.int .i8 (x.left.term.val.kind)), (.int .i64 (x.left.term.val.num)), (.string x.left.term.val.text), lk]) := ((hd 6 rfl).2 12 rfl).trans (hd 6 rfl).1
  have e31 : ρ 13 = (ni lf) := ((hd 7 rfl).2 13 rfl).trans (hd 7 rfl).1
  refine W1 (OpT.callS cal65 [] [] [(.agg #[(.int .i8 (x.left.op)), (.string x.left.term.var), (.int .i8 (x.left.term.val.kind)), (.int .i64 (x.left.term.val.num)), (.string x.left.term.val.text), lk]), (ni lf)] rfl (ca2 e30 e31) (ExprParts_spec st28 x.left _ hl lf (by omega)) ?_)
  rintro v32 w33 ⟨rfl, st34⟩
  refine WL.nil ?_
  exact oneQ.mk ⟨rfl, st34⟩
 ·intro vals ρ w36 X hd h0 st35
  have e37 : ρ 10 = (ni (1 + x.atom.args.length)) := ((hd 4 rfl).2 10 rfl).trans (hd 4 rfl).1
  have e38 : ρ 14 = (.int .i64 ((((partsE x.left lf) : Nat) : Int))) := ((hd 8 rfl).2 14 rfl).trans (hd 8 rfl).1
  refine W1 (OpT.iadd .i64 (((1 + x.atom.args.length : Nat) : Int)) ((((partsE x.left lf) : Nat) : Int)) (((1 + x.atom.args.length + (partsE x.left lf) : Nat) : Int)) e37 e38 (wadd (a := 1 + x.atom.args.length) (b := (partsE x.left lf)) (by omega)) ?_)
  refine WL.nil ?_
  exact oneQ.mk ⟨rfl, st35⟩
 ·intro vals ρ w40 X hd h0 st39
  have e41 : ρ 15 = (.int .i64 (((1 + x.atom.args.length + (partsE x.left lf) : Nat) : Int))) := ((hd 9 rfl).2 15 rfl).trans (hd 9 rfl).1
  refine W1 (OpT.assign (.int .i64 (((1 + x.atom.args.length + (partsE x.left lf) : Nat) : Int))) e41 ?_)
  refine WL.nil ?_
  exact oneQ.mk ⟨rfl, st39⟩
 intro vals ρ44 w43 hv h0 st42
 replace st42 : St Z w0 w43 (Blk b1 74 [(.int .i8 (x.kind)), (.string x.atom.pred), av, (.int .i8 (x.rel)), (.int .i8 (x.left.op)), (.string x.left.term.var), (.int .i8 (x.left.term.val.kind)), (.int .i64 (x.left.term.val.num)), (.string x.left.term.val.text), lk, (.int .i8 (x.right.op)), (.string x.right.term.var), (.int .i8 (x.right.term.val.kind)), (.int .i64 (x.right.term.val.num)), (.string x.right.term.val.text), rk] :: L) := st42
 have e45 : ρ44 1 = (ni lf) := (h0 1 rfl).trans rfl
 have e46 : ρ44 2 = (pt b1 0) := (h0 2 rfl).trans rfl
 have e47 : ρ44 5 = (.int .i64 (((1 + x.atom.args.length + (partsE x.left lf) : Nat) : Int))) := ((hv 10 rfl).2 5 rfl).trans (hv 10 rfl).1
 clear hv h0
 refine Wnt ?_
 refine WC.seq ?_
 refine Wsr ?_
 refine W1 (OpT.move (.int .i64 (((1 + x.atom.args.length + (partsE x.left lf) : Nat) : Int))) e47 ?_)
 refine W1 (OpT.move (ni lf) e45 ?_)
 refine W1 (OpT.igt .i64 (((1 + x.atom.args.length + (partsE x.left lf) : Nat) : Int)) (((lf : Nat) : Int)) rfl rfl ?_)
 refine Wnt ?_
 refine WC.condP (((lf : Nat) : Int) < ((1 + x.atom.args.length + (partsE x.left lf) : Nat) : Int)) rfl (fun h48 => ?_) (fun h48 => ?_)
 ·refine WC.seq ?_
  refine WC.region ?_
  refine W1 (OpT.move (ni lf) e45 ?_)
  refine W1 (OpT.iadd .i64 (((lf : Nat) : Int)) (1) (((lf + 1 : Nat) : Int)) rfl rfl (wadd (a := lf) (b := 1) (by omega)) ?_)
  refine W1 (OpT.assign (ni (lf + 1)) rfl ?_)
  refine Wnt ?_
  refine WC.ret <| thenQ_r <| retQ.one (ni (lf + 1)) rfl ?_
  exact ⟨_, rfl, by rw [partsL, if_pos (by omega)], (St.selT [Blk b1 74 [(.int .i8 (x.kind)), (.string x.atom.pred), av, (.int .i8 (x.rel)), (.int .i8 (x.left.op)), (.string x.left.term.var), (.int .i8 (x.left.term.val.kind)), (.int .i64 (x.left.term.val.num)), (.string x.left.term.val.text), lk, (.int .i8 (x.right.op)), (.string x.right.term.var), (.int .i8 (x.right.term.val.kind)), (.int .i64 (x.right.term.val.num)), (.string x.right.term.val.text), rk]] [] rfl (by decide) st42)⟩
 refine WC.skip ?_
 refine thenQ_n ?_
 refine Wsr ?_
 refine W1 (OpT.move (.int .i64 (((1 + x.atom.args.length + (partsE x.left lf) : Nat) : Int))) e47 ?_)
 refine W1 (OpT.field 10 ⟨b1, 0, none⟩ ⟨b1, 10, none⟩ tf74_4 e46 rfl ?_)
 refine W1 (OpT.loadA ⟨b1, 10, none⟩ 6 [(.int .i8 (x.right.op)), (.string x.right.term.var), (.int .i8 (x.right.term.val.kind)), (.int .i64 (x.right.term.val.num)), (.string x.right.term.val.text), rk] ta72 ts72 rfl ((st42.rowB (i := 0) rfl).part 10 6) rfl ?_)
 refine W1 (OpT.move (ni lf) e45 ?_)
 refine W1 (OpT.move (.int .i64 (((1 + x.atom.args.length + (partsE x.left lf) : Nat) : Int))) e47 ?_)
 refine W1 (OpT.isub .i64 (((lf : Nat) : Int)) (((1 + x.atom.args.length + (partsE x.left lf) : Nat) : Int)) (((lf - (1 + x.atom.args.length + (partsE x.left lf)) : Nat) : Int)) rfl rfl (wsub (a := lf) (b := 1 + x.atom.args.length + (partsE x.left lf)) (by omega) (by omega)) ?_)
 refine W1 (OpT.callS cal65 [] [] [(.agg #[(.int .i8 (x.right.op)), (.string x.right.term.var), (.int .i8 (x.right.term.val.kind)), (.int .i64 (x.right.term.val.num)), (.string x.right.term.val.text), rk]), (.int .i64 (((lf - (1 + x.atom.args.length + (partsE x.left lf)) : Nat) : Int)))] rfl (ca2 rfl rfl) (ExprParts_spec st42 x.right _ hr (lf - (1 + x.atom.args.length + (partsE x.left lf))) (by omega)) ?_)
 rintro v49 w50 ⟨rfl, st51⟩
 refine W1 (OpT.iadd .i64 (((1 + x.atom.args.length + (partsE x.left lf) : Nat) : Int)) ((((partsE x.right (lf - (1 + x.atom.args.length + (partsE x.left lf)))) : Nat) : Int)) (((1 + x.atom.args.length + (partsE x.left lf) + (partsE x.right (lf - (1 + x.atom.args.length + (partsE x.left lf)))) : Nat) : Int)) rfl rfl (wadd (a := 1 + x.atom.args.length + (partsE x.left lf)) (b := (partsE x.right (lf - (1 + x.atom.args.length + (partsE x.left lf))))) (by omega)) ?_)
 refine W1 (OpT.assign (.int .i64 (((1 + x.atom.args.length + (partsE x.left lf) + (partsE x.right (lf - (1 + x.atom.args.length + (partsE x.left lf)))) : Nat) : Int))) rfl ?_)
 refine Wnt ?_
 refine WC.ret <| retQ.one (.int .i64 (((1 + x.atom.args.length + (partsE x.left lf) + (partsE x.right (lf - (1 + x.atom.args.length + (partsE x.left lf)))) : Nat) : Int))) rfl ?_
 exact ⟨_, rfl, by rw [partsL, if_neg (by omega)], (St.selT [Blk b1 74 [(.int .i8 (x.kind)), (.string x.atom.pred), av, (.int .i8 (x.rel)), (.int .i8 (x.left.op)), (.string x.left.term.var), (.int .i8 (x.left.term.val.kind)), (.int .i64 (x.left.term.val.num)), (.string x.left.term.val.text), lk, (.int .i8 (x.right.op)), (.string x.right.term.var), (.int .i8 (x.right.term.val.kind)), (.int .i64 (x.right.term.val.num)), (.string x.right.term.val.text), rk]] [] rfl (by decide) st51)⟩

theorem RuleParts_spec {Z : Nat → Prop} {w0 w : World} {L : List Res} (st : St Z w0 w L) (y : Rul) (av bv : Value) (ha : rAgr.sl Z w0 av y.head) (hb : rLtr.sl Z w0 bv y.body) (lf : Nat) (hlm : lf ≤ 1048576) : Calls Tryz.prog 21 #[(.agg #[(.string y.pred), av, bv]), (ni lf)] w (Ret fun r w' => r = .int .i64 ((partsR y lf y.body : Nat) : Int) ∧ St Z w0 w' L) := by
 have hal := Rl.sl_le ha
 have hbl := Rl.sl_le hb
 refine calls_of_WC (m := 35) (rs := [.tmp 4]) Tryz.func21 rfl rfl rfl rfl ?_
 refine Wsr ?_
 refine W1 (OpT.box st (.agg #[(.string y.pred), av, bv]) [(.string y.pred), av, bv] rfl rfl (fun b1 w2 st3 => ?_))
 refine W1 (OpT.assign (ii 0) rfl ?_)
 refine Wns ?_
 refine W1 (OpT.field 1 ⟨b1, 0, none⟩ ⟨b1, 1, none⟩ tf54_1 rfl rfl ?_)
 refine W1 (OpT.loadS ⟨b1, 1, none⟩ av ta51 rfl (st3.cellB (i := 0) rfl rfl) ?_)
 refine W1 (OpT.lenR rfl tu51 ha rfl ?_)
 refine W1 (OpT.iadd .i64 (1) (((y.head.length : Nat) : Int)) (((1 + y.head.length : Nat) : Int)) rfl rfl (wadd (a := 1) (b := y.head.length) (by omega)) ?_)
 refine W1 (OpT.assign (ni (1 + y.head.length)) rfl ?_)
 refine Wnt ?_
 refine WC.seq ?_
 refine Wsr ?_
 refine W1 (OpT.assign (ii 0) rfl ?_)
 refine Wnt ?_
 refine WC.block ?_
 refine WC.loop (fun m ρ wz => ∃ (i : Nat), m = y.body.length - i ∧ i ≤ y.body.length ∧ ρ 5 = (.int .i64 ((((partsR y lf (y.body.take i)) : Nat) : Int))) ∧ ρ 6 = (ni i) ∧ ρ 1 = (ni lf) ∧ ρ 2 = (pt b1 0) ∧ St Z w0 wz (Blk b1 54 [(.string y.pred), av, bv] :: L)) _ ⟨0, rfl, by omega, rfl, rfl, rfl, rfl, st3⟩ ?_
 rintro m4 ρ5 w6 ⟨i, hm13, hp8, hs9, hs10, hs11, hs12, st7⟩
 have hps := partsS_le (lf := lf) (y.body.take i) (1 + y.head.length)
 have hpe : partsR y lf (y.body.take i) = (y.body.take i).foldl (partsS lf) (1 + y.head.length) := rfl
 refine WC.seq ?_
 refine Wsr ?_
 refine W1 (OpT.move (ni i) hs10 ?_)
 refine W1 (OpT.field 2 ⟨b1, 0, none⟩ ⟨b1, 2, none⟩ tf54_2 hs12 rfl ?_)
 refine W1 (OpT.loadS ⟨b1, 2, none⟩ bv ta52 rfl (st7.cellB (i := 0) rfl rfl) ?_)
 refine W1 (OpT.lenR rfl tu52 hb rfl ?_)
 refine W1 (OpT.ilt .i64 (((i : Nat) : Int)) (((y.body.length : Nat) : Int)) rfl rfl ?_)
 refine W1 (OpT.move (.bool (decide (((i : Nat) : Int) < ((y.body.length : Nat) : Int)))) rfl ?_)
 by_cases h14 : ((i : Nat) : Int) < ((y.body.length : Nat) : Int)
 ·refine W2 (dj := 16) (bT h14) (OpT.move (.int .i64 ((((partsR y lf (y.body.take i)) : Nat) : Int))) hs9 ?_)
  refine W2 (dj := 16) (bT h14) (OpT.move (ni lf) hs11 ?_)
  refine W2 (dj := 16) (bT h14) (OpT.ile .i64 ((((partsR y lf (y.body.take i)) : Nat) : Int)) (((lf : Nat) : Int)) rfl rfl ?_)
  refine W1 (OpT.pickT (.bool (decide ((((partsR y lf (y.body.take i)) : Nat) : Int) ≤ ((lf : Nat) : Int)))) (bT h14) rfl ?_)
  refine Wnt ?_
  refine WC.condP ((((partsR y lf (y.body.take i)) : Nat) : Int) ≤ ((lf : Nat) : Int)) rfl (fun h15 => ?_) (fun h15 => ?_)
  ·refine WC.skip ?_
   refine thenQ_n ?_
   refine WC.seq ?_
   refine WC.block ?_
   refine WC.region ?_
   refine W1 (OpT.move (.int .i64 ((((partsR y lf (y.body.take i)) : Nat) : Int))) hs9 ?_)
   refine W1 (OpT.field 2 ⟨b1, 0, none⟩ ⟨b1, 2, none⟩ tf54_2 hs12 rfl ?_)
   refine W1 (OpT.loadS ⟨b1, 2, none⟩ bv ta52 rfl (st7.cellB (i := 0) rfl rfl) ?_)
   refine W1 (OpT.move (ni i) hs10 ?_)
   obtain ⟨x16, hx16⟩ : ∃ x, (y.body)[i]? = some x := ⟨_, List.getElem?_eq_getElem (by omega)⟩
   refine W1 (OpT.idxX tu52 ts74 hb rfl .i64 (i) rfl hx16 (fun ad17 cs18 hr19 hR20 => ?_))
   have hR20c := hR20
   obtain ⟨av21, lk22, rk23, rfl, ha24, hl25, hr26⟩ := hR20
   have hR20l := partsL_le x16 (lf - partsR y lf (y.body.take i))
   refine W1 (OpT.loadA ad17 16 [(.int .i8 (x16.kind)), (.string x16.atom.pred), av21, (.int .i8 (x16.rel)), (.int .i8 (x16.left.op)), (.string x16.left.term.var), (.int .i8 (x16.left.term.val.kind)), (.int .i64 (x16.left.term.val.num)), (.string x16.left.term.val.text), lk22, (.int .i8 (x16.right.op)), (.string x16.right.term.var), (.int .i8 (x16.right.term.val.kind)), (.int .i64 (x16.right.term.val.num)), (.string x16.right.term.val.text), rk23] ta74 ts74 rfl ((hr19.at st7).part 0 16) rfl ?_)
   refine W1 (OpT.move (ni lf) hs11 ?_)
   refine W1 (OpT.move (.int .i64 ((((partsR y lf (y.body.take i)) : Nat) : Int))) hs9 ?_)
   refine W1 (OpT.isub .i64 (((lf : Nat) : Int)) ((((partsR y lf (y.body.take i)) : Nat) : Int)) (((lf - (partsR y lf (y.body.take i)) : Nat) : Int)) rfl rfl (wsub (a := lf) (b := (partsR y lf (y.body.take i))) (by omega) (by omega)) ?_)
   refine W1 (OpT.callS cal41 [] [] [(.agg #[(.int .i8 (x16.kind)), (.string x16.atom.pred), av21, (.int .i8 (x16.rel)), (.int .i8 (x16.left.op)), (.string x16.left.term.var), (.int .i8 (x16.left.term.val.kind)), (.int .i64 (x16.left.term.val.num)), (.string x16.left.term.val.text), lk22, (.int .i8 (x16.right.op)), (.string x16.right.term.var), (.int .i8 (x16.right.term.val.kind)), (.int .i64 (x16.right.term.val.num)), (.string x16.right.term.val.text), rk23]), (.int .i64 (((lf - (partsR y lf (y.body.take i)) : Nat) : Int)))] rfl (ca2 rfl rfl) (literalParts_spec st7 x16 _ _ _ ha24 hl25 hr26 (lf - (partsR y lf (y.body.take i))) (by omega)) ?_)
   rintro v27 w28 ⟨rfl, st29⟩
   refine W1 (OpT.iadd .i64 ((((partsR y lf (y.body.take i)) : Nat) : Int)) ((((partsL x16 (lf - (partsR y lf (y.body.take i)))) : Nat) : Int)) ((((partsR y lf (y.body.take i)) + (partsL x16 (lf - (partsR y lf (y.body.take i)))) : Nat) : Int)) rfl rfl (wadd (a := (partsR y lf (y.body.take i))) (b := (partsL x16 (lf - (partsR y lf (y.body.take i))))) (by omega)) ?_)
   refine W1 (OpT.assign (.int .i64 ((((partsR y lf (y.body.take i)) + (partsL x16 (lf - (partsR y lf (y.body.take i)))) : Nat) : Int))) rfl ?_)
   refine WL.nil ?_
   refine blkQ_n ?_
   refine thenQ_n ?_
   refine WC.region ?_
   refine W1 (OpT.move (ni i) hs10 ?_)
   refine W1 (OpT.iadd .i64 (((i : Nat) : Int)) (1) (((i + 1 : Nat) : Int)) rfl rfl (wadd (a := i) (b := 1) (by omega)) ?_)
   refine W1 (OpT.assign (ni (i + 1)) rfl ?_)
   refine WL.nil ?_
   have e30 : partsR y lf (y.body.take (i + 1)) = (partsR y lf (y.body.take i)) + (partsL x16 (lf - (partsR y lf (y.body.take i)))) := by rw [partsR_step hx16, partsS, if_pos (by omega)]
   exact loopQ_n _ (by omega) ⟨i + 1, rfl, by omega, ((congrArg (fun n : Nat => Value.int .i64 (n : Int)) e30.symm)), rfl, hs11, hs12, st29⟩
  refine WC.exit ?_
  refine thenQ_x ?_
  refine loopQ_x ?_
  refine blkQ_hit ?_
  refine thenQ_n ?_
  refine Wsr ?_
  refine W1 (OpT.move (.int .i64 ((((partsR y lf (y.body.take i)) : Nat) : Int))) hs9 ?_)
  refine W1 (OpT.assign (.int .i64 ((((partsR y lf (y.body.take i)) : Nat) : Int))) rfl ?_)
  refine Wnt ?_
  refine WC.ret <| retQ.one (.int .i64 ((((partsR y lf (y.body.take i)) : Nat) : Int))) rfl ?_
  exact ⟨_, rfl, by rw [partsR_stop (y := y) (lf := lf) (xs := y.body) (i := i) (by omega)], (St.selT [Blk b1 54 [(.string y.pred), av, bv]] [] rfl (by decide) st7)⟩
 refine WL.pass (dj := 16) (c := false) rfl rfl rfl (bF h14) rfl ?_
 refine WL.pass (dj := 16) (c := false) rfl rfl rfl (bF h14) rfl ?_
 refine WL.pass (dj := 16) (c := false) rfl rfl rfl (bF h14) rfl ?_
 refine W1 (OpT.pickF (.bool false) (bF h14) rfl ?_)
 refine Wnt ?_
 refine WC.condF rfl ?_
 refine WC.exit ?_
 refine thenQ_x ?_
 refine loopQ_x ?_
 refine blkQ_hit ?_
 refine thenQ_n ?_
 refine Wsr ?_
 refine W1 (OpT.move (.int .i64 ((((partsR y lf (y.body.take i)) : Nat) : Int))) hs9 ?_)
 refine W1 (OpT.assign (.int .i64 ((((partsR y lf (y.body.take i)) : Nat) : Int))) rfl ?_)
 refine Wnt ?_
 refine WC.ret <| retQ.one (.int .i64 ((((partsR y lf (y.body.take i)) : Nat) : Int))) rfl ?_
 have eT : y.body.take i = y.body := List.take_of_length_le (by omega)
 exact ⟨_, rfl, by rw [eT], (St.selT [Blk b1 54 [(.string y.pred), av, bv]] [] rfl (by decide) st7)⟩

theorem BeyondRules_spec {Z : Nat → Prop} {w0 w : World} {L : List Res} (st : St Z w0 w L) (v : Value) (rs : List Rul) (hv : rRul.sl Z w0 v rs) : Calls Tryz.prog 6 #[v] w (Ret fun r w' => r = .bool (beyondB rs) ∧ St Z w0 w' L) := by
 have hal := Rl.sl_le hv
 refine calls_of_WC (m := 20) (rs := [.tmp 2]) Tryz.func6 rfl rfl rfl rfl ?_
 refine Wsr ?_
 refine W1 (OpT.assign (.bool false) rfl ?_)
 refine Wns ?_
 refine W1 (OpT.assign (ii 0) rfl ?_)
 refine Wnt ?_
 refine WC.seq ?_
 refine Wsr ?_
 refine W1 (OpT.assign (ii 0) rfl ?_)
 refine Wnt ?_
 refine WC.block ?_
 refine WC.loop (fun m ρ wz => ∃ (i : Nat), ∃ (n : Nat), m = rs.length - i ∧ i ≤ rs.length ∧ n ≤ 1048576 ∧ bsum (rs.drop i) n = beyondB rs ∧ ρ 3 = (ni n) ∧ ρ 4 = (ni i) ∧ ρ 0 = v ∧ St Z w0 wz (L)) _ ⟨0, 0, rfl, by omega, by omega, rfl, rfl, rfl, rfl, st⟩ ?_
 rintro m1 ρ2 w3 ⟨i, n, hm10, hp5, hp6, HB, hs8, hs7, hs9, st4⟩
 refine WC.seq ?_
 refine Wsr ?_
 refine W1 (OpT.move (ni i) hs7 ?_)
 refine W1 (OpT.move v hs9 ?_)
 refine W1 (OpT.lenR rfl tu22 hv rfl ?_)
 refine W1 (OpT.ilt .i64 (((i : Nat) : Int)) (((rs.length : Nat) : Int)) rfl rfl ?_)
 refine Wnt ?_
 refine WC.condP (((i : Nat) : Int) < ((rs.length : Nat) : Int)) rfl (fun h11 => ?_) (fun h11 => ?_)
 ·refine WC.skip ?_
  refine thenQ_n ?_
  refine WC.seq ?_
  refine WC.block ?_
  refine Wsr ?_
  refine W1 (OpT.move (ni n) hs8 ?_)
  refine W1 (OpT.move v hs9 ?_)
  refine W1 (OpT.move (ni i) hs7 ?_)
  obtain ⟨x12, hx12⟩ : ∃ x, (rs)[i]? = some x := ⟨_, List.getElem?_eq_getElem (by omega)⟩
  refine W1 (OpT.idxX tu22 ts54 hv rfl .i64 (i) rfl hx12 (fun ad13 cs14 hr15 hR16 => ?_))
  have hR16c := hR16
  obtain ⟨hv17, bv18, rfl, hh19, hb20⟩ := hR16
  have hR16h := Rl.sl_le hh19
  have hR16l := partsS_le (lf := 1048576) x12.body (1 + x12.head.length)
  have hR16e : partsR x12 1048576 x12.body = x12.body.foldl (partsS 1048576) (1 + x12.head.length) := rfl
  refine W1 (OpT.loadA ad13 3 [(.string x12.pred), hv17, bv18] ta54 ts54 rfl ((hr15.at st4).part 0 3) rfl ?_)
  refine W1 (OpT.callS cal21 [] [] [(.agg #[(.string x12.pred), hv17, bv18]), (ii 1048576)] rfl (ca2 rfl rfl) (RuleParts_spec st4 x12 _ _ hh19 hb20 1048576 (by omega)) ?_)
  rintro v21 w22 ⟨rfl, st23⟩
  refine W1 (OpT.iadd .i64 (((n : Nat) : Int)) ((((partsR x12 1048576 x12.body) : Nat) : Int)) (((n + (partsR x12 1048576 x12.body) : Nat) : Int)) rfl rfl (wadd (a := n) (b := (partsR x12 1048576 x12.body)) (by omega)) ?_)
  refine W1 (OpT.assign (.int .i64 (((n + (partsR x12 1048576 x12.body) : Nat) : Int))) rfl ?_)
  refine Wns ?_
  refine W1 (OpT.move (.int .i64 (((n + (partsR x12 1048576 x12.body) : Nat) : Int))) rfl ?_)
  refine W1 (OpT.igt .i64 (((n + (partsR x12 1048576 x12.body) : Nat) : Int)) (1048576) rfl rfl ?_)
  refine Wnt ?_
  refine WC.condP (1048576 < ((n + (partsR x12 1048576 x12.body) : Nat) : Int)) rfl (fun h24 => ?_) (fun h24 => ?_)
  ·refine WC.seq ?_
   refine WC.region ?_
   refine W1 (OpT.assign (.bool true) rfl ?_)
   refine Wnt ?_
   refine WC.ret <| blkQ_r <| thenQ_r <| loopQ_r <| blkQ_r <| thenQ_r <| retQ.one (.bool true) rfl ?_
   rw [bsum_at hx12, if_pos (by omega)] at HB
   exact ⟨_, rfl, by rw [← HB], st23⟩
  refine WC.skip ?_
  refine blkQ_n ?_
  refine thenQ_n ?_
  refine WC.region ?_
  refine W1 (OpT.move (ni i) hs7 ?_)
  refine W1 (OpT.iadd .i64 (((i : Nat) : Int)) (1) (((i + 1 : Nat) : Int)) rfl rfl (wadd (a := i) (b := 1) (by omega)) ?_)
  refine W1 (OpT.assign (ni (i + 1)) rfl ?_)
  refine WL.nil ?_
  rw [bsum_at hx12, if_neg (by omega)] at HB
  exact loopQ_n _ (by omega) ⟨i + 1, n + (partsR x12 1048576 x12.body), rfl, by omega, by omega, HB, rfl, rfl, hs9, st23⟩
 refine WC.exit ?_
 refine thenQ_x ?_
 refine loopQ_x ?_
 refine blkQ_hit ?_
 refine thenQ_n ?_
 refine Wsr ?_
 refine W1 (OpT.assign (.bool false) rfl ?_)
 refine Wnt ?_
 refine WC.ret <| retQ.one (.bool false) rfl ?_
 rw [List.drop_of_length_le (by omega), bsum] at HB
 exact ⟨_, rfl, by rw [← HB], st4⟩

end Go.Ped
set_option linter.unusedVariables false
set_option maxRecDepth 20000
namespace Go.Ped
open Go Go.Eng Go.RowKit Go.Proofs

theorem cal53 : CallOk Tryz.prog 53 := ⟨⟨Tryz.f53, Tryz.func53, rfl, by decide⟩⟩
theorem cal51 : CallOk Tryz.prog 51 := ⟨⟨Tryz.f51, Tryz.func51, rfl, by decide⟩⟩
open Go.Maps Go.Sort
def keyL (m : List (ByteArray × Value)) : List (List UInt8) := m.map fun p => p.1.data.toList
theorem names_spec {Z : Nat → Prop} {w0 w : World} {L : List Res} {mb : Nat} {m : List (ByteArray × Value)} (st : St Z w0 w (Mp Value.string (fun v : Value => v) mb m :: L)) (hk : ∀ p ∈ m, p.1.size ≤ maxLen) (hd : (m.map fun p => p.1).Nodup) (hl : m.length < 2097152) :
    Calls Tryz.prog 28 #[.map (some mb)] w (Ret fun r w' => r.oneCell' = true ∧ r.cells = #[r] ∧ St Z w0 w' (Row 9 1 r m.length (((keyL m).mergeSort leB).map encStr) :: Mp Value.string (fun v : Value => v) mb m :: L)) := by
  obtain ⟨S, ⟨hS, es, clock, hb, hm, hp, hc⟩, hlt, _⟩ := st.focus (i := 0) rfl
  have hks : es.toList.map (fun e => e.key) = m.map (fun p => Value.string p.1) := by
    have := congrArg (List.map Prod.fst) hm
    simpa [List.map_map, Function.comp_def] using this
  have hsz : es.size = m.length := by have := congrArg List.length hm; simpa using this
  have hkey : ∀ x ∈ es.toList, ∃ p ∈ m, x.key = .string p.1 := by
    intro x hx
    have : x.key ∈ m.map (fun p => Value.string p.1) := by rw [← hks]; exact List.mem_map_of_mem hx
    obtain ⟨p, hp, e⟩ := List.mem_map.1 this
    exact ⟨p, hp, e.symm⟩
  have hu : Tryz.prog.underlying 9 = some .string := Tryz.underlying9
  have hrd : ∀ x ∈ es.toList, ∀ s, x.key = .string s → WideElems.rd (H := Unit) Tryz.prog 9 (fun _ => some (.nil, [])) x = some (.string s.data.toList, .nil) := by
    intro x hx s hs
    obtain ⟨p, hpm, e⟩ := hkey x hx
    have es' : p.1 = s := by rw [hs] at e; exact (Value.string.inj e).symm
    have := WideMaps.keyOf_string_mk hu (hk p hpm)
    rw [es'] at this
    simp [WideElems.rd, hs, this]
  have F : WideElems.Fit (H := Unit) Tryz.prog 9 (fun _ => some (.nil, [])) es clock := by
    refine ⟨by rw [hsz]; simp only [maxLen]; omega, ⟨hc, hp.imp (fun h => Nat.ne_of_lt h), ?_⟩, ?_⟩
    · show (es.toList.map (fun e => e.key)).Nodup
      rw [hks, show (m.map fun p => Value.string p.1) = (m.map fun p => p.1).map Value.string from by rw [List.map_map]; rfl]
      exact List.pairwise_map.2 (hd.imp (fun h e => h (by injection e)))
    · intro x hx
      obtain ⟨p, _, e⟩ := hkey x hx
      exact ⟨_, hrd x hx _ e⟩
  have hD : (strKeys (H := Unit) (.map ((es.toList.map (WideElems.rg Tryz.prog 9 (fun _ => some (.nil, [])))).foldr DataW.insert []))).Perm (keyL m) := by
    show List.Perm (List.map (fun p : Lit × DataW Unit => strOf p.1) _) _
    refine ((WideShapes.sorted_perm _).map _).trans (List.Perm.of_eq ?_)
    rw [List.map_map]
    have e : es.toList.map ((fun p : Lit × DataW Unit => strOf p.1) ∘ WideElems.rg Tryz.prog 9 (fun _ => some (.nil, []))) = es.toList.map (fun e => match e.key with | .string s => s.data.toList | _ => []) := by
      refine List.map_congr_left (fun x hx => ?_)
      obtain ⟨p, _, e⟩ := hkey x hx
      simp only [Function.comp_def, WideElems.rg, hrd x hx _ e, Option.getD_some, e, strOf]
    rw [e]
    have := congrArg (List.map (fun v => match v with | Value.string s => s.data.toList | _ => [])) hks
    simpa [List.map_map, Function.comp_def, keyL] using this
  have hms : Maps.size (H := Unit) (.map ((es.toList.map (WideElems.rg Tryz.prog 9 (fun _ => some (.nil, [])))).foldr DataW.insert [])) = m.length := by
    rw [Maps.size_eq, (WideShapes.sorted_perm _).length_eq, List.length_map, Array.length_toList, hsz]
  have own : w.ownsMap (H := Unit) Tryz.prog 9 (fun _ => some (.nil, [])) mb es.size (.map ((es.toList.map (WideElems.rg Tryz.prog 9 (fun _ => some (.nil, [])))).foldr DataW.insert [])) := ⟨es, clock, hb, F, Nat.le_refl _, rfl⟩
  have cK := callsIn_wide.1 (Tryz.maps_Keys_53 (some mb) w)
  have cS := callsIn_wide.1 (Tryz.slices_Sorted_keys_51_53 mb es.size _ _ w own (by rw [hms]; simp only [maxLen]; omega) (by rw [hms]; omega))
  refine calls_of_WC (m := 6) (rs := [.tmp 2]) Tryz.func28 rfl rfl rfl rfl ?_
  refine WC.seq ?_
  refine WC.region ?_
  refine WL.step rfl (OpT.assign (.slice none 0 0) rfl ?_)
  refine WL.nil ?_
  refine thenQ_n ?_
  refine WC.seq ?_
  refine WC.region ?_
  refine WL.step rfl (OpT.move (.map (some mb)) rfl ?_)
  refine WL.step rfl (OpT.callC cal53 [] [] [.map (some mb)] rfl (ca1 rfl) (cK.mono ?_))
  rintro e w1 ⟨rfl, rfl⟩
  refine ⟨_, rfl, ?_⟩
  refine WL.step rfl (OpT.callC cal51 [] [] [.func (.func 78) #[] #[.pointer (some ⟨w.heap.size, 0, none⟩)]] rfl (ca1 rfl) (cS.mono ?_))
  rintro e w2 ⟨v, ss, rfl, hperm, hrow, hnil, hbel⟩
  refine ⟨_, rfl, ?_⟩
  refine WL.step rfl (OpT.assign v rfl ?_)
  refine WL.nil ?_
  refine thenQ_n ?_
  refine WC.ret <| retQ.one v rfl ?_
  have hss : ss.mergeSort (fun x y => decide (x ≤ y)) = (keyL m).mergeSort leB := mergeSort_of_perm (hperm.trans hD)
  have hlen : ss.length = m.length := by rw [(hperm.trans hD).length_eq, keyL, List.length_map]
  rw [hss, hlen] at hrow
  have hb1 : Below w.heap.size w w2 := ((Below.refl _ w).alloc (Nat.le_refl _) _).trans (hbel.mono (by simp))
  have st2 := st.cons hb1 (Row 9 1 v m.length (((keyL m).mergeSort leB).map encStr)) (fun k => v.ownBlock = some k) ⟨fun _ => Iff.rfl, ownsRow_base_a hrow (by simp)⟩ (fun k hk => by
    have := hrow.lt k hk
    simp at this
    omega)
  exact ⟨_, rfl, st2.rowOne (i := 0) rfl, st2.rowCel (i := 0) rfl, st2⟩
end Go.Ped
set_option linter.unusedVariables false
set_option maxRecDepth 20000
namespace Go.Ped
open Go Go.Eng Go.RowKit Go.Proofs

theorem cal79 : CallOk Tryz.prog 79 := ⟨⟨Tryz.f79, Tryz.func79, rfl, by decide⟩⟩
theorem cal54 : CallOk Tryz.prog 54 := ⟨⟨Tryz.f54, Tryz.func54, rfl, by decide⟩⟩
theorem cal76 : CallOk Tryz.prog 76 := ⟨⟨Tryz.f76, Tryz.func76, rfl, by decide⟩⟩
open Go.Maps Go.Sort Go.Shelf
theorem take_succ' {α : Type} (zs : List α) (k : Nat) (hk : k < zs.length) : zs.take (k + 1) = zs.take k ++ [zs[k]] := by
  rw [List.take_add_one, List.getElem?_eq_getElem hk]; simp
/-- The walk over a slice of strings: whatever the rounds do, so they keep what lay below n0. -/
theorem Vals1 (n : Nat) (hn : 1 ≤ n) (l B n0 g off len cap : Nat) (zs : List (List UInt8)) (hlen : len = zs.length) (hreach : len * 16 ≤ 140737488351232) (hg : g < n0) (hBn : B < n0) (J : List (List UInt8) → World → Prop) (W : World)
    (hY : ∀ pre x W, J pre W → pre.length < len → YieldAt Fence.wide (n - 1) Tryz.prog l #[encStr x] W fun e W' => e = .returned (.bool true) ∧ J (pre ++ [x]) W') (hJB : ∀ pre W', J pre W' → Below n0 W W')
    (hBs : W.cell? ⟨B, 0, none⟩ = some (.slice (some ⟨g, off, none⟩) len cap)) (hc : ∀ j, j < len → W.cell? ⟨g, off + j, none⟩ = some (encStr (zs[j]?.getD []))) (h0 : J [] W) :
    CallsIn Fence.wide n Tryz.prog 77 #[.func (.yield l) #[] #[], .pointer (some ⟨B, 0, none⟩)] W fun e W' => (∃ v, e = .returned v) ∧ J zs W' := by
  subst hlen
  refine callsIn_of_wp Tryz.func77 rfl trivial ?_ rfl
  simp only [Tryz.ntmps77, List.size_toArray, List.length_cons, List.length_nil, Nat.reduceAdd, Nat.reduceSub, Array.replicate_succ, Array.replicate_zero, List.push_toArray, List.append_toArray, List.nil_append, List.cons_append]
  gi_wp2
  gi_loopw [7] (fun i wr => ∃ k : Nat, k ≤ zs.length ∧ i = .int .i64 k ∧ J (zs.take k) wr)
    (fun i _ => zs.length - (RowKit.intOf i).toNat)
  case atStart => exact ⟨0, Nat.zero_le _, rfl, h0⟩
  case round =>
    obtain ⟨k, hk, rfl, hJs⟩ := hrel
    have hnx := hJB _ _ hJs
    have hcx : ∀ h : k < zs.length, wr.cell? ⟨g, off + k, none⟩ = some (encStr zs[k]) := fun h => ((hnx.cell (p := ⟨g, off + k, none⟩) hg).trans (hc k h)).trans (by rw [List.getElem?_eq_getElem h]; rfl)
    by_cases hlt : k < zs.length
    · obtain ⟨fn, tmps, assign, body, hy, hR⟩ := hY _ zs[k] wr hJs (by rw [List.length_take]; omega)
      have hcx' := hcx hlt
      gi_wp2
      refine hR.mono ?_
      rintro e W3 ⟨rfl, hJ3⟩
      gi_wp2
      go_roundw
      case rel => exact ⟨k + 1, by omega, by simp, by rw [take_succ' zs k hlt]; exact hJ3⟩
      case measure => simp [RowKit.intOf]; omega
    · obtain rfl : k = zs.length := by omega
      gi_wp2
      go_end0
      exact ⟨⟨_, rfl⟩, by rw [List.take_length] at hJs; exact hJs⟩
/-- slices.AppendSeq(nil, slices.Values(s)): a slice of its own with s's strings. -/
theorem AppVals (n : Nat) (hn : 2 ≤ n) (B g off cap : Nat) (zs : List (List UInt8)) (hz : zs.length < 2097152) (w : World) (hBl : B < w.heap.size) (hg : g < w.heap.size)
    (hBs : w.cell? ⟨B, 0, none⟩ = some (.slice (some ⟨g, off, none⟩) zs.length cap)) (hc : ∀ j, j < zs.length → w.cell? ⟨g, off + j, none⟩ = some (encStr (zs[j]?.getD []))) :
    CallsIn Fence.wide n Tryz.prog 79 #[.slice none 0 0, .func (.func 77) #[] #[.pointer (some ⟨B, 0, none⟩)]] w fun e w' => ∃ v, e = .returned v ∧ w'.ownsRow w.heap.size 9 1 v zs.length (zs.map encStr) ∧ Below w.heap.size w w' := by
  have X : SlLaysZ.n11 Tryz.prog Tryz.sorted51_ren := { Tryz.sorted51 with }
  have hro : Fence.wide.round = none := rfl
  have hne : 37 ≠ 9 := by decide
  refine callsIn_of_wp_marks Tryz.func79 rfl trivial ?_ hro
  simp only [Tryz.ntmps79, List.size_toArray, List.length_cons, List.length_nil, Nat.reduceAdd, Nat.reduceSub, Array.replicate_succ, Array.replicate_zero, List.push_toArray, List.append_toArray, List.nil_append, List.cons_append]
  gi_wp2
  refine wpIn_rangeFunc ?_
  intro fn hfn
  rw [hro]
  obtain ⟨W0, hW0⟩ : ∃ W0, w.alloc (.cells #[.slice none 0 0] 37) = W0 := ⟨_, rfl⟩
  have hs0 : W0.heap.size = w.heap.size + 1 := by rw [← hW0]; simp
  have hv0 : W0.heap[w.heap.size]? = some (.cells #[.slice none 0 0] 37 (0, 0)) := by rw [← hW0]; exact World.alloc_heap_new w _
  have hb0 : Below w.heap.size w W0 := by rw [← hW0]; exact (Below.refl _ w).alloc (Nat.le_refl _) _
  rw [hW0]
  obtain ⟨rec_, hrec⟩ : ∃ r, AnyZ.apRec Tryz.sorted51_ren fn (.func (.func 77) #[] #[.pointer (some ⟨B, 0, none⟩)]) w.heap.size W0.heap.size .ready none = r := ⟨_, rfl⟩
  obtain ⟨W1, hW1⟩ : ∃ W1, (W0.alloc (.deferred (some []))).alloc (.loop rec_) = W1 := ⟨_, rfl⟩
  have hold : ∀ k, k < W0.heap.size → W1.heap[k]? = W0.heap[k]? := fun k hk => by
    rw [← hW1]; exact (Below.heap_alloc _ _ k (by simp; omega)).trans (Below.heap_alloc _ _ k hk)
  have hb1 : Below w.heap.size w W1 := by rw [← hW1]; exact (hb0.alloc hb0.size _).alloc (by have := hb0.size; simp; omega) _
  have hs1 : W1.heap.size = W0.heap.size + 2 := by rw [← hW1]; simp
  have hM : AnyZ.ApAt Tryz.sorted51_ren w fn (.func (.func 77) #[] #[.pointer (some ⟨B, 0, none⟩)]) w.heap.size (W0.heap.size + 1) W0.heap.size [] W1 :=
    ⟨⟨_, (hold w.heap.size (by omega)).trans hv0, ⟨rfl, .inl ⟨rfl, rfl⟩⟩, by simp⟩,
     by rw [hrec, ← hW1]; have := World.alloc_heap_new (W0.alloc (.deferred (some []))) (.loop rec_); rwa [World.size_alloc] at this,
     by rw [← hW1]; exact (Below.heap_alloc _ _ _ (by simp)).trans (World.alloc_heap_new W0 _), hb1⟩
  refine ⟨W0.heap.size + 1, [{ target := .collected W0.heap.size, args := #[] }], W1, { target := .fn (.func 77) #[.pointer (some ⟨B, 0, none⟩)], args := #[.func (.yield (W0.heap.size + 1)) #[] #[]] }, W1, 77,
    #[.func (.yield (W0.heap.size + 1)) #[] #[]] ++ #[.pointer (some ⟨B, 0, none⟩)], W1, ?_, ?_, ?_, ?_, fun _ => by omega, ?_⟩
  · rw [← hW1, ← hrec]; exact run_enterLoop_outer _ _ _ _ _
  · simp [resolve, go_sem]
  · intro f' hf'; exact trivial
  · simp [invoke, go_sem, enters_of Tryz.func77 (by kernel_rfl) rfl]
  · have hbel : ∀ pre W', AnyZ.ApAt Tryz.sorted51_ren w fn (.func (.func 77) #[] #[.pointer (some ⟨B, 0, none⟩)]) w.heap.size (W0.heap.size + 1) W0.heap.size pre W' → Below w.heap.size W1 W' := fun pre W' h => by
      have h2 := h.below
      refine ⟨h2.os.trans hb1.os.symm, h2.tape.trans hb1.tape.symm, h2.output.trans hb1.output.symm, ?_, fun k hk => (h2.block k hk).trans (hb1.block k hk).symm⟩
      first | exact h2.size | (have := (Array.getElem?_eq_some_iff.1 h.L).1; omega)
    refine (Vals1 (n - 1) (by omega) (W0.heap.size + 1) B w.heap.size g off zs.length cap zs rfl (by omega) hg hBl (AnyZ.ApAt Tryz.sorted51_ren w fn (.func (.func 77) #[] #[.pointer (some ⟨B, 0, none⟩)]) w.heap.size (W0.heap.size + 1) W0.heap.size) W1
      (fun pre x W hJ hl => (AnyZ.apYield X Fence.wide (n - 1 - 1) w fn hfn _ w.heap.size (W0.heap.size + 1) W0.heap.size (by omega) (by omega) (by omega) (Nat.le_refl _) (by omega) zs.length (by simp only [maxLen]; omega) (by omega) pre x W hJ hl).mono (fun e W' ⟨h1, h2, _⟩ => ⟨h1, h2⟩)) hbel
      ((hb1.cell (p := ⟨B, 0, none⟩) hBl).trans hBs) (fun j hj => (hb1.cell (p := ⟨g, off + j, none⟩) hg).trans (hc j hj)) hM).mono ?_
    rintro e W2 ⟨⟨v0, rfl⟩, h2⟩
    obtain ⟨v, hv, hrow, hnil⟩ := h2.box
    have hend := run_endLoop (P := Tryz.prog) h2.L (by simp [AnyZ.apRec])
    obtain ⟨W3, hW3⟩ : ∃ W3, W2.putObj (W0.heap.size + 1) (.loop { AnyZ.apRec Tryz.sorted51_ren fn (.func (.func 77) #[] #[.pointer (some ⟨B, 0, none⟩)]) w.heap.size W0.heap.size .ready none with state := .exhausted }) = W3 := ⟨_, rfl⟩
    rw [hW3] at hend
    have hg3 : W2.grownBy W3 (some (W0.heap.size + 1)) := by rw [← hW3]; exact grownBy_putObj_a _ _ _
    have hv3 : W3.heap[w.heap.size]? = some (.cells #[v] 37 (0, 0)) := by rw [← hW3]; exact (World.putObj_heap_other (by omega)).trans hv
    have hK3 : W3.heap[W0.heap.size]? = some (.deferred (some [])) := by rw [← hW3]; exact (World.putObj_heap_other (by omega)).trans h2.K
    have hrow3 := hrow.kept hg3 (ownsRow_ne_a hrow h2.L (fun cur e => by cases e))
    have hb3 : Below w.heap.size w W3 := h2.below.grown hg3 h2.below.size (fun k e => by cases e; omega)
    obtain ⟨hc3, hf3⟩ := cell_of_box_a hv3
    clear hW3
    refine ⟨none, W3, hend, ?_⟩
    gi_wp2
    rw [← hs0]
    refine ⟨by simp, .inl ⟨_, _, rfl, run_takeDeferred hK3, ?_⟩⟩
    exact ⟨_, results_tmp rfl _ _ _, v, rfl, hrow3.kept (grownBy_putObj_a _ _ _) (ownsRow_ne_a hrow3 hK3 (fun cur e => by cases e)), hb3.grown (grownBy_putObj_a _ _ _) hb3.size (fun k e => by cases e; omega)⟩
section
variable {Z : Nat → Prop} {w0 w : World} {L : List Res}
theorem Sort_spec {v : Value} {ss : List (List UInt8)} (st : St Z w0 w (Row 9 1 v ss.length (ss.map encStr) :: L)) (hl : ss.length < 2097152) : Calls Tryz.prog 76 #[v] w (Ret fun r w' => r = .tuple #[] ∧ St Z w0 w' (Row 9 1 v ss.length ((ss.mergeSort leB).map encStr) :: L)) := by
  obtain ⟨S, ⟨hS, hrow⟩, hlt, H⟩ := st.focus (i := 0) rfl
  have hso := Tryz.sorts51 9
  rcases hrow.2 with ⟨rfl, hz⟩ | ⟨gb, cap, cur, rfl, hbase, hgb, r1, r2, r3, r4⟩
  · have hss : ss = [] := List.eq_nil_of_length_eq_zero hz
    subst hss
    refine (callsIn_wide.1 (hso.2 none 0 w)).mono ?_
    rintro e w' ⟨rfl, rfl⟩
    exact ⟨_, rfl, rfl, by simpa using st⟩
  · have hH : Holds encStr w gb 0 ss.toArray := holds_of_block hgb (by simpa using r4)
    have hgl : gb < w.heap.size := (Array.getElem?_eq_some_iff.1 hgb).1
    refine (callsIn_wide.1 (hso.1 gb 0 cap ss w hH hgl (by omega))).mono ?_
    rintro e w' ⟨rfl, nn, os, rfl⟩
    refine ⟨_, rfl, rfl, ?_⟩
    have hg := grownBy_sorted (w := w) (g := gb) (n := nn) (os := os) (ss.mergeSort fun x y => decide (x ≤ y)).toArray
    have hr := ownsRow_sorted (w := w) (n := nn) (os := os) (ss := ss) (ts := ss.mergeSort fun x y => decide (x ≤ y)) (by simp) hbase hgb r1 r2 r3
    refine H _ (Row 9 1 (.slice (some ⟨gb, 0, none⟩) ss.length cap) ss.length ((ss.mergeSort leB).map encStr)) S hg.os hg.tape hg.output hg.size (fun k hk hn => hg.block k hk (fun e => hn ((hS k).2 e.symm))) ⟨hS, hr⟩ (fun k hk => ⟨Nat.lt_of_lt_of_le (hlt k hk).1 hg.size, .inl hk⟩)
theorem sortedVals_spec {B g cap off : Nat} {zs : List (List UInt8)} {cells : List Value} (st : St Z w0 w (Blk B 37 [.slice (some ⟨g, off, none⟩) zs.length cap] :: Blk g 9 cells :: L)) (hl : zs.length < 2097152) (hcs : ∀ j, j < zs.length → cells[off + j]? = some (encStr (zs[j]?.getD []))) :
    Calls Tryz.prog 51 #[.func (.func 77) #[] #[.pointer (some ⟨B, 0, none⟩)]] w (Ret fun r w' => r.oneCell' = true ∧ r.cells = #[r] ∧ St Z w0 w' (Row 9 1 r zs.length ((zs.mergeSort leB).map encStr) :: Blk B 37 [.slice (some ⟨g, off, none⟩) zs.length cap] :: Blk g 9 cells :: L)) := by
  have hB := st.blk (i := 0) rfl
  have hG := st.blk (i := 1) rfl
  have cA := callsIn_wide.1 (AppVals 6 (by omega) B g off cap zs hl w (Array.getElem?_eq_some_iff.1 hB).1 (Array.getElem?_eq_some_iff.1 hG).1 (by simp [World.cell?, hB]) (fun j hj => by
    have := hcs j hj
    simp only [World.cell?, hG]
    simpa using this))
  refine calls_of_WC (m := 9) (rs := [.tmp 2]) Tryz.func51 rfl rfl rfl rfl ?_
  refine WC.seq ?_
  refine WC.region ?_
  refine WL.step rfl (OpT.assign (.slice none 0 0) rfl ?_)
  refine WL.nil ?_
  refine thenQ_n ?_
  refine WC.seq ?_
  refine WC.region ?_
  refine WL.step rfl (OpT.move (.func (.func 77) #[] #[.pointer (some ⟨B, 0, none⟩)]) rfl ?_)
  refine WL.step rfl (OpT.callC cal54 [] [] [.func (.func 77) #[] #[.pointer (some ⟨B, 0, none⟩)]] rfl (ca1 rfl) ?_)
  refine calls_of_WC (m := 5) (rs := [.tmp 2]) Tryz.func54 rfl rfl rfl rfl ?_
  refine WC.seq ?_
  refine WC.region ?_
  refine WL.step rfl (OpT.assign (.slice none 0 0) rfl ?_)
  refine WL.nil ?_
  refine thenQ_n ?_
  refine WC.seq ?_
  refine WC.region ?_
  refine WL.step rfl (OpT.move (.func (.func 77) #[] #[.pointer (some ⟨B, 0, none⟩)]) rfl ?_)
  refine WL.step rfl (OpT.callC cal79 [] [] [.slice none 0 0, .func (.func 77) #[] #[.pointer (some ⟨B, 0, none⟩)]] rfl (ca2 rfl rfl) (cA.mono ?_))
  rintro e w1 ⟨v, rfl, hrow, hbel⟩
  have st1 := st.cons hbel (Row 9 1 v zs.length (zs.map encStr)) (fun k => v.ownBlock = some k) ⟨fun _ => Iff.rfl, ownsRow_base_a hrow (Nat.zero_le _)⟩ (fun k hk => hrow.lt k hk)
  refine ⟨_, rfl, ?_⟩
  refine WL.step rfl (OpT.assign v rfl ?_)
  refine WL.nil ?_
  refine thenQ_n ?_
  refine WC.ret <| retQ.one v rfl ?_
  refine ⟨_, rfl, ?_⟩
  refine WL.step rfl (OpT.assign v rfl ?_)
  refine WL.nil ?_
  refine thenQ_n ?_
  refine WC.seq ?_
  refine WC.region ?_
  refine WL.step rfl (OpT.move v rfl ?_)
  refine WL.step rfl (OpT.callS cal76 [] [] [v] rfl (ca1 rfl) (Sort_spec st1 hl) ?_)
  rintro r w2 ⟨rfl, st2⟩
  refine WL.nil ?_
  refine thenQ_n ?_
  refine WC.seq ?_
  refine WC.region ?_
  refine WL.step rfl (OpT.move v rfl ?_)
  refine WL.step rfl (OpT.assign v rfl ?_)
  refine WL.nil ?_
  refine thenQ_n ?_
  refine WC.ret <| retQ.one v rfl ?_
  exact ⟨_, rfl, st2.rowOne (i := 0) rfl, st2.rowCel (i := 0) rfl, st2⟩
end
end Go.Ped
set_option linter.unusedVariables false
set_option maxRecDepth 20000
namespace Go.Ped
open Go Go.Eng Go.RowKit Go.Proofs

theorem fl67 : fieldsB Tryz.prog 67 = some [(65, 0, 1), (2, 1, 1), (9, 2, 1)] := by kernel_rfl
theorem co67 : Tryz.prog.cellsOf 67 = 3 := by kernel_rfl
theorem fl69 : fieldsB Tryz.prog 69 = some [(9, 0, 1), (67, 1, 3)] := by kernel_rfl
theorem co69 : Tryz.prog.cellsOf 69 = 4 := by kernel_rfl
theorem fl102 : fieldsB Tryz.prog 102 = some [(100, 0, 1), (69, 1, 4)] := by kernel_rfl
theorem co102 : Tryz.prog.cellsOf 102 = 5 := by kernel_rfl
theorem fl62 : fieldsB Tryz.prog 62 = some [(9, 0, 1), (60, 1, 1)] := by kernel_rfl
theorem co62 : Tryz.prog.cellsOf 62 = 2 := by kernel_rfl
theorem bo69 : Nat.blt 0 (Tryz.prog.bytesOf 69) = true := by kernel_rfl
theorem fl72 : fieldsB Tryz.prog 72 = some [(64, 0, 1), (69, 1, 4), (70, 5, 1)] := by kernel_rfl
theorem co72 : Tryz.prog.cellsOf 72 = 6 := by kernel_rfl
theorem bo72 : Nat.blt 0 (Tryz.prog.bytesOf 72) = true := by kernel_rfl
theorem fl74 : fieldsB Tryz.prog 74 = some [(59, 0, 1), (62, 1, 2), (63, 3, 1), (72, 4, 6), (72, 10, 6)] := by kernel_rfl
theorem co74 : Tryz.prog.cellsOf 74 = 16 := by kernel_rfl
theorem fl54 : fieldsB Tryz.prog 54 = some [(9, 0, 1), (51, 1, 1), (52, 2, 1)] := by kernel_rfl
theorem co54 : Tryz.prog.cellsOf 54 = 3 := by kernel_rfl
theorem bo102 : Nat.blt 0 (Tryz.prog.bytesOf 102) = true := by kernel_rfl
theorem bo74 : Nat.blt 0 (Tryz.prog.bytesOf 74) = true := by kernel_rfl
theorem bo54 : Nat.blt 0 (Tryz.prog.bytesOf 54) = true := by kernel_rfl
theorem len2 {cs : List Value} (h : cs.length = 2) : ∃ c0 c1, cs = [c0, c1] := by
  match cs, h with
  | [c0, c1], _ => exact ⟨c0, c1, rfl⟩
theorem len3 {cs : List Value} (h : cs.length = 3) : ∃ c0 c1 c2, cs = [c0, c1, c2] := by
  match cs, h with
  | [c0, c1, c2], _ => exact ⟨c0, c1, c2, rfl⟩
theorem len4 {cs : List Value} (h : cs.length = 4) : ∃ c0 c1 c2 c3, cs = [c0, c1, c2, c3] := by
  match cs, h with
  | [c0, c1, c2, c3], _ => exact ⟨c0, c1, c2, c3, rfl⟩
theorem len5 {cs : List Value} (h : cs.length = 5) : ∃ c0 c1 c2 c3 c4, cs = [c0, c1, c2, c3, c4] := by
  match cs, h with
  | [c0, c1, c2, c3, c4], _ => exact ⟨c0, c1, c2, c3, c4, rfl⟩
theorem len6 {cs : List Value} (h : cs.length = 6) : ∃ c0 c1 c2 c3 c4 c5, cs = [c0, c1, c2, c3, c4, c5] := by
  match cs, h with
  | [c0, c1, c2, c3, c4, c5], _ => exact ⟨c0, c1, c2, c3, c4, c5, rfl⟩
theorem len16 {cs : List Value} (h : cs.length = 16) : ∃ c0 c1 c2 c3 c4 c5 c6 c7 c8 c9 c10 c11 c12 c13 c14 c15, cs = [c0, c1, c2, c3, c4, c5, c6, c7, c8, c9, c10, c11, c12, c13, c14, c15] := by
  match cs, h with
  | [c0, c1, c2, c3, c4, c5, c6, c7, c8, c9, c10, c11, c12, c13, c14, c15], _ => exact ⟨c0, c1, c2, c3, c4, c5, c6, c7, c8, c9, c10, c11, c12, c13, c14, c15, rfl⟩
theorem op_Val {H : Type} {enc : TypeId × Value → H} {W : World} {base : Nat} {sp : Nat → Bool} {held : Bool} {fuel : Nat} {cs : List Value} {d : DataW H} {p : List MemPlace} (h : DataW.trod enc Tryz.prog W base sp held fuel 67 cs = some (d, p)) (hw : wOk Tryz.prog 67 d) : ∃ x, rVal.R (fun k => k < W.heap.size) W cs x := by
  obtain ⟨f, rfl⟩ := rd_pos h
  obtain ⟨hl, hf⟩ := rd_struct fl67 h hw
  rw [co67] at hl
  obtain ⟨c0, c1, c2, rfl⟩ := len3 hl
  obtain ⟨_, _, h0, w0⟩ := hf 0 _ _ _ rfl
  obtain ⟨k, e0⟩ := rd_int Tryz.underlying65 h0
  cases (show [c0] = [.int .i8 k] from e0)
  obtain ⟨_, _, h1, w1⟩ := hf 1 _ _ _ rfl
  obtain ⟨m, e1⟩ := rd_int Tryz.underlying2 h1
  cases (show [c1] = [.int .i64 m] from e1)
  obtain ⟨_, _, h2, w2⟩ := hf 2 _ _ _ rfl
  obtain ⟨s, e2, z2⟩ := rd_str Tryz.underlying9 h2
  cases (show [c2] = [.string s] from e2)
  exact ⟨⟨k, m, s⟩, rfl⟩
theorem op_Trm {H : Type} {enc : TypeId × Value → H} {W : World} {base : Nat} {sp : Nat → Bool} {held : Bool} {fuel : Nat} {cs : List Value} {d : DataW H} {p : List MemPlace} (h : DataW.trod enc Tryz.prog W base sp held fuel 69 cs = some (d, p)) (hw : wOk Tryz.prog 69 d) : ∃ x, rTrm.R (fun k => k < W.heap.size) W cs x := by
  obtain ⟨f, rfl⟩ := rd_pos h
  obtain ⟨hl, hf⟩ := rd_struct fl69 h hw
  rw [co69] at hl
  obtain ⟨c0, c1, c2, c3, rfl⟩ := len4 hl
  obtain ⟨_, _, h0, w0⟩ := hf 0 _ _ _ rfl
  obtain ⟨v, e0, z0⟩ := rd_str Tryz.underlying9 h0
  cases (show [c0] = [.string v] from e0)
  obtain ⟨_, _, h1, w1⟩ := hf 1 _ _ _ rfl
  obtain ⟨y, e1⟩ := op_Val h1 w1
  cases (show [c1, c2, c3] = [.int .i8 y.kind, .int .i64 y.num, .string y.text] from e1)
  exact ⟨⟨v, y⟩, rfl⟩
theorem op_Agr {H : Type} {enc : TypeId × Value → H} {W : World} {base : Nat} {sp : Nat → Bool} {held : Bool} {fuel : Nat} {cs : List Value} {d : DataW H} {p : List MemPlace} (h : DataW.trod enc Tryz.prog W base sp held fuel 102 cs = some (d, p)) (hw : wOk Tryz.prog 102 d) : ∃ x, rAgr.R (fun k => k < W.heap.size) W cs x := by
  obtain ⟨f, rfl⟩ := rd_pos h
  obtain ⟨hl, hf⟩ := rd_struct fl102 h hw
  rw [co102] at hl
  obtain ⟨c0, c1, c2, c3, c4, rfl⟩ := len5 hl
  obtain ⟨_, _, h0, w0⟩ := hf 0 _ _ _ rfl
  obtain ⟨g, e0⟩ := rd_int Tryz.underlying100 h0
  cases (show [c0] = [.int .i8 g] from e0)
  obtain ⟨_, _, h1, w1⟩ := hf 1 _ _ _ rfl
  obtain ⟨y, e1⟩ := op_Trm h1 w1
  cases (show [c1, c2, c3, c4] = [.string y.var, .int .i8 y.val.kind, .int .i64 y.val.num, .string y.val.text] from e1)
  exact ⟨⟨g, y⟩, rfl⟩
theorem op_Atm {H : Type} {enc : TypeId × Value → H} {W : World} {base : Nat} {sp : Nat → Bool} {held : Bool} {fuel : Nat} {cs : List Value} {d : DataW H} {p : List MemPlace} (h : DataW.trod enc Tryz.prog W base sp held fuel 62 cs = some (d, p)) (hw : wOk Tryz.prog 62 d) : ∃ (y : Atm) (av : Value), cs = [.string y.pred, av] ∧ rTrm.sl (fun k => k < W.heap.size) W av y.args ∧ y.pred.size ≤ maxLen := by
  obtain ⟨f, rfl⟩ := rd_pos h
  obtain ⟨hl, hf⟩ := rd_struct fl62 h hw
  rw [co62] at hl
  obtain ⟨c0, c1, rfl⟩ := len2 hl
  obtain ⟨_, _, h0, w0⟩ := hf 0 _ _ _ rfl
  obtain ⟨q, e0, z0⟩ := rd_str Tryz.underlying9 h0
  cases (show [c0] = [.string q] from e0)
  obtain ⟨_, _, h1, w1⟩ := hf 1 _ _ _ rfl
  obtain ⟨f1, ef1⟩ := rd_pos h1
  rw [ef1] at h1
  obtain ⟨v1, xs, e1, s1, q1⟩ := rd_slice (r := rTrm) (Q := fun _ => True) Tryz.underlying60 co69 bo69 (fun _ _ _ h w => ⟨_, (op_Trm h w).choose_spec, trivial⟩) h1 w1
  cases (show [c1] = [v1] from e1)
  exact ⟨⟨q, xs⟩, _, rfl, s1, z0⟩
theorem op_ExpN {H : Type} {enc : TypeId × Value → H} {W : World} {base : Nat} {sp : Nat → Bool} {held : Bool} : ∀ (fuel : Nat) {cs : List Value} {d : DataW H} {p : List MemPlace}, DataW.trod enc Tryz.prog W base sp held fuel 72 cs = some (d, p) → wOk Tryz.prog 72 d → ∃ x, rExp.R (fun k => k < W.heap.size) W cs x := by
  intro fuel
  induction fuel using Nat.strongRecOn with
  | _ fuel ih =>
    intro cs d p h hw
    obtain ⟨f, rfl⟩ := rd_pos h
    obtain ⟨hl, hf⟩ := rd_struct fl72 h hw
    rw [co72] at hl
    obtain ⟨c0, c1, c2, c3, c4, c5, rfl⟩ := len6 hl
    obtain ⟨_, _, h0, w0⟩ := hf 0 _ _ _ rfl
    obtain ⟨o, e0⟩ := rd_int Tryz.underlying64 h0
    cases (show [c0] = [.int .i8 o] from e0)
    obtain ⟨_, _, h1, w1⟩ := hf 1 _ _ _ rfl
    obtain ⟨y, e1⟩ := op_Trm h1 w1
    cases (show [c1, c2, c3, c4] = [.string y.var, .int .i8 y.val.kind, .int .i64 y.val.num, .string y.val.text] from e1)
    obtain ⟨_, _, h2, w2⟩ := hf 2 _ _ _ rfl
    obtain ⟨f2, ef2⟩ := rd_pos h2
    rw [ef2] at h2
    obtain ⟨v2, xs, e2, s2, q2⟩ := rd_slice (r := rExp) (Q := fun _ => True) Tryz.underlying70 co72 bo72 (fun _ _ _ h w => ⟨_, (ih f2 (by omega) h w).choose_spec, trivial⟩) h2 w2
    cases (show [c5] = [v2] from e2)
    exact ⟨.mk o y xs, rExp_mk (x := .mk o y xs) s2⟩
theorem op_Ltr {H : Type} {enc : TypeId × Value → H} {W : World} {base : Nat} {sp : Nat → Bool} {held : Bool} {fuel : Nat} {cs : List Value} {d : DataW H} {p : List MemPlace} (h : DataW.trod enc Tryz.prog W base sp held fuel 74 cs = some (d, p)) (hw : wOk Tryz.prog 74 d) : ∃ x, rLtr.R (fun k => k < W.heap.size) W cs x ∧ x.atom.pred.size ≤ maxLen := by
  obtain ⟨f, rfl⟩ := rd_pos h
  obtain ⟨hl, hf⟩ := rd_struct fl74 h hw
  rw [co74] at hl
  obtain ⟨c0, c1, c2, c3, c4, c5, c6, c7, c8, c9, c10, c11, c12, c13, c14, c15, rfl⟩ := len16 hl
  obtain ⟨_, _, h0, w0⟩ := hf 0 _ _ _ rfl
  obtain ⟨k, e0⟩ := rd_int Tryz.underlying59 h0
  cases (show [c0] = [.int .i8 k] from e0)
  obtain ⟨_, _, h1, w1⟩ := hf 1 _ _ _ rfl
  obtain ⟨a, av, e1, s1, z1⟩ := op_Atm h1 w1
  cases (show [c1, c2] = [.string a.pred, av] from e1)
  obtain ⟨_, _, h2, w2⟩ := hf 2 _ _ _ rfl
  obtain ⟨r, e2⟩ := rd_int Tryz.underlying63 h2
  cases (show [c3] = [.int .i8 r] from e2)
  obtain ⟨_, _, h3, w3⟩ := hf 3 _ _ _ rfl
  obtain ⟨x, hx3⟩ := op_ExpN _ h3 w3
  obtain ⟨k3, e3, s3⟩ := rExp_kids hx3
  cases (show [c4, c5, c6, c7, c8, c9] = [.int .i8 x.op, .string x.term.var, .int .i8 x.term.val.kind, .int .i64 x.term.val.num, .string x.term.val.text, k3] from e3)
  obtain ⟨_, _, h4, w4⟩ := hf 4 _ _ _ rfl
  obtain ⟨y, hx4⟩ := op_ExpN _ h4 w4
  obtain ⟨k4, e4, s4⟩ := rExp_kids hx4
  cases (show [c10, c11, c12, c13, c14, c15] = [.int .i8 y.op, .string y.term.var, .int .i8 y.term.val.kind, .int .i64 y.term.val.num, .string y.term.val.text, k4] from e4)
  exact ⟨⟨k, a, r, x, y⟩, ⟨_, _, _, rfl, s1, s3, s4⟩, z1⟩
theorem op_Rul {H : Type} {enc : TypeId × Value → H} {W : World} {base : Nat} {sp : Nat → Bool} {held : Bool} {fuel : Nat} {cs : List Value} {d : DataW H} {p : List MemPlace} (h : DataW.trod enc Tryz.prog W base sp held fuel 54 cs = some (d, p)) (hw : wOk Tryz.prog 54 d) : ∃ x, rRul.R (fun k => k < W.heap.size) W cs x ∧ (x.pred.size ≤ maxLen ∧ ∀ y ∈ x.body, y.atom.pred.size ≤ maxLen) := by
  obtain ⟨f, rfl⟩ := rd_pos h
  obtain ⟨hl, hf⟩ := rd_struct fl54 h hw
  rw [co54] at hl
  obtain ⟨c0, c1, c2, rfl⟩ := len3 hl
  obtain ⟨_, _, h0, w0⟩ := hf 0 _ _ _ rfl
  obtain ⟨q, e0, z0⟩ := rd_str Tryz.underlying9 h0
  cases (show [c0] = [.string q] from e0)
  obtain ⟨_, _, h1, w1⟩ := hf 1 _ _ _ rfl
  obtain ⟨f1, ef1⟩ := rd_pos h1
  rw [ef1] at h1
  obtain ⟨v1, xs, e1, s1, q1⟩ := rd_slice (r := rAgr) (Q := fun _ => True) Tryz.underlying51 co102 bo102 (fun _ _ _ h w => ⟨_, (op_Agr h w).choose_spec, trivial⟩) h1 w1
  cases (show [c1] = [v1] from e1)
  obtain ⟨_, _, h2, w2⟩ := hf 2 _ _ _ rfl
  obtain ⟨f2, ef2⟩ := rd_pos h2
  rw [ef2] at h2
  obtain ⟨v2, ys, e2, s2, q2⟩ := rd_slice (r := rLtr) (Q := fun y => y.atom.pred.size ≤ maxLen) Tryz.underlying52 co74 bo74 (fun _ _ _ h w => op_Ltr h w) h2 w2
  cases (show [c2] = [v2] from e2)
  exact ⟨⟨q, xs, ys⟩, ⟨_, _, rfl, s1, s2⟩, z0, q2⟩
theorem op_Ruls {H : Type} {enc : TypeId × Value → H} {W : World} {base : Nat} {sp : Nat → Bool} {held : Bool} {fuel : Nat} {cs : List Value} {d : DataW H} {p : List MemPlace} (h : DataW.trod enc Tryz.prog W base sp held fuel 22 cs = some (d, p)) (hw : wOk Tryz.prog 22 d) : ∃ v rs, cs = [v] ∧ rRul.sl (fun k => k < W.heap.size) W v rs ∧ ∀ x ∈ rs, x.pred.size ≤ maxLen ∧ ∀ y ∈ x.body, y.atom.pred.size ≤ maxLen := by
  obtain ⟨f, rfl⟩ := rd_pos h
  exact rd_slice (r := rRul) (Q := fun x => x.pred.size ≤ maxLen ∧ ∀ y ∈ x.body, y.atom.pred.size ≤ maxLen) Tryz.underlying22 co54 bo54 (fun _ _ _ h w => op_Rul h w) h hw
end Go.Ped
namespace Go.Eng
open Go.RowKit
def flE (E : Nat → List Res) (listed : Array Bool) (n : Nat) : List Res := flat (fun i _ => E i) (fun i => !listed.getD i false) (fun _ => undef) (List.range n)
theorem flE_nil {E : Nat → List Res} {listed : Array Bool} {n : Nat} (h : ∀ i, i < n → listed.getD i false = true) : flE E listed n = [] := by
  unfold flE flat
  rw [List.flatMap_eq_nil_iff]
  intro j hj
  show (if (!listed.getD j false) = true then E j else []) = []
  rw [h j (List.mem_range.1 hj)]; rfl
theorem flE_put {E : Nat → List Res} {listed : Array Bool} {n i : Nat} (hi : i < n) (hs : i < listed.size) (hu : listed.getD i false = false) : (flE E listed n).Perm (E i ++ flE E (listed.setIfInBounds i true) n) := by
  have h := flat_put (D := fun i _ => E i) (on := fun j => !(listed.setIfInBounds i true).getD j false) (vals := fun _ => undef) (is := List.range n) (i := i) (v := undef) List.nodup_range (List.mem_range.2 hi) (by simp [hs])
  refine List.Perm.trans (List.Perm.of_eq ?_) h.symm
  unfold flE
  have key : (fun j => !listed.getD j false) = (fun j => if j = i then true else !(listed.setIfInBounds i true).getD j false) := by
    funext j
    by_cases hj : j = i
    · subst hj; rw [if_pos rfl, hu]; rfl
    · rw [if_neg hj, getD_set_ne false (Ne.symm hj)]
  have key2 : (fun j => if j = i then undef else (fun _ : Nat => undef) j) = (fun _ : Nat => undef) := by funext j; simp
  rw [key, key2]
def uD (D : Nat → (Nat → Value) → Value → List Res) (u : Nat → Option Nat) (i : Nat) (vals : Nat → Value) : List Res := match u i with | some j => D j vals (vals j) | none => []
def uB (l : List Oper) (n : Nat) (u : Nat → Option Nat) : Bool := (List.range n).all (fun i => match u i with | some j => Nat.blt j n && ancB l n i j | none => true)
def offJ (o : Option Nat) (on : Nat → Bool) (j : Nat) : Bool := if o = some j then false else on j
theorem flat_take {D : Nat → Value → List Res} {on : Nat → Bool} {vals : Nat → Value} {n j : Nat} (hj : j < n) (hon : on j = true) : (flat D on vals (List.range n)).Perm (D j (vals j) ++ flat D (offJ (some j) on) vals (List.range n)) := by
  have h := flat_put (D := D) (on := offJ (some j) on) (vals := vals) (is := List.range n) (i := j) (v := vals j) List.nodup_range (List.mem_range.2 hj) (by simp [offJ])
  refine List.Perm.trans (List.Perm.of_eq ?_) h.symm
  refine flat_same (fun k _ => ?_)
  by_cases hk : k = j
  · subst hk; simp [hon]
  · have : ¬ j = k := fun e => hk e.symm
    simp [offJ, hk, this]
section
variable {P : Program} {m n : Nat} {l : List Oper} {Q : QP} {Z : Nat → Prop} {w0 : World} {L : List Res}
theorem St.nilAll {w : World} (st : St Z w0 w L) : St Z w0 w [] := St.sel [] rfl List.nodup_nil st
theorem flat_none {on : Nat → Bool} {vals : Nat → Value} {is : List Nat} : flat (fun _ _ => []) on vals is = [] := by
  unfold flat
  rw [List.flatMap_eq_nil_iff]
  intro j _
  split <;> rfl
theorem dinv_stepW {L2 X : List Res} {F : Nat → Value → Prop} {D : Nat → Value → List Res} {ρ0 : Env} {listed : Array Bool} {vals : Nat → Value} {ρ : Env} {w w' : World} (hB : headB m l n = true) (I : DInv m l n Z w0 L2 F D ρ0 listed vals ρ w) {i : Nat} (hin : i < n)
    (hr : i ∈ Region.ready .any l.toArray listed) {v : Value} (hF : F i v) (hst : St Z w0 w' (D i v ++ ((flat D (fun i => listed.getD i false) vals (List.range n) ++ X) ++ L))) :
    DInv m l n Z w0 (X ++ L) F D ρ0 (listed.setIfInBounds i true) (fun j => if j = i then v else vals j) (updO ρ (dstOf l i) v) w' := by
  have I0 : DInv m l n Z w0 [] F (fun _ _ => []) ρ0 listed vals ρ w := ⟨I.inv, I.val, I.old, by rw [flat_none]; exact I.st.nilAll⟩
  have I1 := dinv_step hB I0 hin hr hF (w' := w') (by rw [flat_none]; exact hst.nilAll)
  refine ⟨I1.inv, I1.val, I1.old, ?_⟩
  have hun := (mem_ready.1 hr).1
  have hil : i < listed.size := by
    rcases Nat.lt_or_ge i listed.size with h | h
    · exact h
    · simp [Array.getElem?_eq_none h] at hun
  have hp := flat_put (D := D) (on := fun j => listed.getD j false) (vals := vals) (is := List.range n) (v := v) List.nodup_range (List.mem_range.2 hin) (getD_both hun)
  have e : flat D (fun j => if j = i then true else listed.getD j false) (fun j => if j = i then v else vals j) (List.range n) = flat D (fun j => (listed.setIfInBounds i true).getD j false) (fun j => if j = i then v else vals j) (List.range n) := flat_same (fun j _ => by
    refine ⟨?_, rfl⟩
    by_cases hj : j = i
    · subst hj; simp [hil]
    · rw [if_neg hj, getD_set_ne false (Ne.symm hj)])
  rw [e] at hp
  refine St.perm ?_ hst
  rw [List.append_assoc, ← List.append_assoc]
  exact List.Perm.append_right _ hp
theorem drawW_any {F : Nat → (Nat → Value) → Value → Prop} {D : Nat → (Nat → Value) → Value → List Res} {E : Nat → List Res} {u : Nat → Option Nat} {ρ0 : Env} {Q : QP} (hB : headB m l n = true) (hU : uB l n u = true) (hFc : ∀ i vals vals' v, i < n → (∀ j, ancB l n i j = true → vals j = vals' j) → F i vals v → F i vals' v) (hDc : ∀ i vals vals' v, i < n → (∀ j, ancB l n i j = true → vals j = vals' j) → D i vals v = D i vals' v)
    (hop : ∀ i o, i < n → l[i]? = some o → ∀ (vals : Nat → Value) (ρ : Env) (w : World) (X : List Res), (∀ j, ancB l n i j = true → F j vals (vals j) ∧ ∀ d, dstOf l j = some d → ρ d = vals j) → (∀ t, (∀ i, i < n → dstOf l i ≠ some t) → ρ t = ρ0 t) → St Z w0 w (X ++ (E i ++ (uD D u i vals ++ L))) →
      WL P m l.toArray (oneQ ρ o.dst (fun v w' => F i vals v ∧ St Z w0 w' (D i vals v ++ (X ++ (uD D u i vals ++ L))))) [o] ρ w)
    (hend : ∀ (vals : Nat → Value) (ρ : Env) (w : World), (∀ i, i < n → F i vals (vals i) ∧ ∀ d, dstOf l i = some d → ρ d = vals i) → (∀ t, (∀ i, i < n → dstOf l i ≠ some t) → ρ t = ρ0 t) → St Z w0 w (flat (fun i v => D i vals v) (fun _ => true) vals (List.range n) ++ L) →
      WL P m l.toArray Q (l.drop n) ρ w) :
    ∀ (k : Nat) (listed : Array Bool) (vals : Nat → Value) (ρ : Env) (w : World) (a : Act), ((List.range n).filter (fun i => !listed.getD i false)).length = k → Fr a m ρ → DInv m l n Z w0 (flE E listed n ++ L) (fun i v => F i vals v) (fun i v => D i vals v) ρ0 listed vals ρ w →
      wpAny P .any l.toArray (lft m Q) (k + (l.drop n).length) listed a w := by
  intro k
  induction k with
  | zero =>
    intro listed vals ρ w a hk ha I
    have hall : ∀ i, i < n → listed.getD i false = true := by
      intro i hi
      have := List.length_eq_zero_iff.1 hk
      have h2 := List.filter_eq_nil_iff.1 this i (List.mem_range.2 hi)
      simpa using h2
    have hB' := hB
    simp only [headB, Bool.and_eq_true] at hB'
    obtain ⟨⟨⟨⟨h1, _⟩, _⟩, _⟩, h5⟩ := hB'
    have hnl : n ≤ l.length := by simpa [Nat.ble_eq] using h1
    have hsz : listed.size = l.length := by rw [I.inv.size]; simp
    have hcan : listed = ((List.range l.length).map (fun j => Nat.blt j n)).toArray := by
      apply Array.ext
      · simp [hsz]
      · intro j hj hj2
        have hjl : j < l.length := by omega
        simp only [List.getElem_toArray, List.getElem_map, List.getElem_range]
        by_cases hjn : j < n
        · have := hall j hjn
          have e : Nat.blt j n = true := by simpa [Nat.blt_eq] using hjn
          rw [e]
          simpa [hj] using this
        · have := I.inv.tail j (by omega) (by simpa using hjl)
          have e : Nat.blt j n = false := by
            cases hb : Nat.blt j n
            · rfl
            · simp [Nat.blt_eq] at hb; omega
          rw [e]
          simpa [hj] using this
    rw [Nat.zero_add]
    refine wpAny_of_seq (l.drop n) n listed a w (fun j => by simp [List.getElem?_drop]) (by rw [hcan]; exact h5) ?_
    refine hend vals ρ w (fun i hi => I.val i hi (hall i hi)) I.old ?_ a ha
    have e : flat (fun i v => D i vals v) (fun i => listed.getD i false) vals (List.range n) = flat (fun i v => D i vals v) (fun _ => true) vals (List.range n) := flat_same (fun j hj => ⟨hall j (List.mem_range.1 hj), rfl⟩)
    rw [← e]
    have hst := I.st
    rw [flE_nil (fun j hj => hall j hj), List.nil_append] at hst
    exact hst
  | succ k ih =>
    intro listed vals ρ w a hk ha I
    have hun : ∃ i, i < n ∧ listed.getD i false = false := by
      have : 0 < ((List.range n).filter (fun i => !listed.getD i false)).length := by omega
      obtain ⟨i, hi⟩ := List.exists_mem_of_length_pos this
      obtain ⟨h1, h2⟩ := List.mem_filter.1 hi
      exact ⟨i, List.mem_range.1 h1, by simpa using h2⟩
    obtain ⟨⟨i0, hi0⟩, hlt⟩ := dinv_ready hB I hun
    rw [show k + 1 + (l.drop n).length = (k + (l.drop n).length) + 1 by omega]
    refine ⟨fun h => (by rw [h] at hi0; cases hi0), fun i hi => ?_⟩
    have hin := hlt i hi
    obtain ⟨hiu, o, ho, hdeps⟩ := mem_ready.1 hi
    have ho' : l[i]? = some o := by simpa using ho
    have hiu0 : listed.getD i false = false := getD_both hiu
    have hils : i < listed.size := by
      rcases Nat.lt_or_ge i listed.size with h | h
      · exact h
      · simp [Array.getElem?_eq_none h] at hiu
    have hpE := flE_put (E := E) (n := n) (listed := listed) hin hils hiu0
    have hpU : (flat (fun i v => D i vals v) (fun i => listed.getD i false) vals (List.range n)).Perm (uD D u i vals ++ flat (fun i v => D i vals v) (offJ (u i) (fun i => listed.getD i false)) vals (List.range n)) := by
      have h := List.all_eq_true.1 hU i (List.mem_range.2 hin)
      unfold uD
      cases hui : u i with
      | none =>
        rw [show offJ none (fun i => listed.getD i false) = (fun i => listed.getD i false) from by funext j; simp [offJ]]
        exact List.Perm.refl _
      | some j =>
        rw [hui] at h
        simp only [Bool.and_eq_true] at h
        exact flat_take (D := fun i v => D i vals v) (by simpa [Nat.blt_eq] using h.1) (anc_listed I.inv n i o ho' hdeps j h.2)
    have hst0 : St Z w0 w ((flat (fun i v => D i vals v) (offJ (u i) (fun i => listed.getD i false)) vals (List.range n) ++ flE E (listed.setIfInBounds i true) n) ++ (E i ++ (uD D u i vals ++ L))) := by
      refine St.perm ?_ I.st
      refine (List.Perm.append_right _ hpU).trans ?_
      refine (List.Perm.append_left _ (List.Perm.append_right _ hpE)).trans ?_
      simp only [List.append_assoc]
      refine (List.perm_append_comm_assoc _ _ _).trans (List.Perm.append_left _ ?_)
      refine (List.Perm.append_left _ (List.perm_append_comm_assoc _ _ _)).trans ?_
      refine (List.perm_append_comm_assoc _ _ _).trans (List.Perm.append_left _ ?_)
      exact List.perm_append_comm_assoc _ _ _
    refine wpOp_of_WL ho ha (hop i o hin ho' vals ρ w (flat (fun i v => D i vals v) (offJ (u i) (fun i => listed.getD i false)) vals (List.range n) ++ flE E (listed.setIfInBounds i true) n) ?_ I.old hst0) ?_
    · intro j hj
      have hlj := anc_listed I.inv (n) i o ho' hdeps j hj
      exact I.val j (listed_lt I.inv hlj) hlj
    · rintro v a' w' hf ⟨hF, hst⟩
      replace hst : St Z w0 w' (D i vals v ++ ((flat (fun i v => D i vals v) (fun i => listed.getD i false) vals (List.range n) ++ flE E (listed.setIfInBounds i true) n) ++ L)) := by
        refine St.perm (List.Perm.append_left _ ?_) hst
        refine List.Perm.trans ?_ (List.Perm.append_right _ (List.Perm.append_right _ hpU.symm))
        simp only [List.append_assoc]
        refine List.Perm.trans ?_ (List.perm_append_comm_assoc _ _ _)
        refine List.Perm.append_left _ ?_
        exact List.perm_append_comm_assoc _ _ _
      have hd : o.dst = dstOf l i := by simp [dstOf, ho']
      rw [hd] at hf
      have same : ∀ j, j < n → (listed.setIfInBounds i true).getD j false = true → ∀ k, ancB l n j k = true → vals k = (fun q => if q = i then v else vals q) k := by
        intro j hj hl k hk
        have hlk : listed.getD k false = true := by
          by_cases hji : j = i
          · subst hji; exact anc_listed I.inv n j o ho' hdeps k hk
          · rw [getD_set_ne false (Ne.symm hji)] at hl
            obtain ⟨oj, hoj⟩ : ∃ oj, l[j]? = some oj := by
              have hsz : listed.size = l.length := by rw [I.inv.size]; simp
              rcases Nat.lt_or_ge j l.length with h | h
              · exact ⟨_, List.getElem?_eq_getElem h⟩
              · rw [Array.getD_eq_getD_getElem?, Array.getElem?_eq_none (by omega)] at hl; cases hl
            exact anc_listed I.inv n j oj hoj (fun e he hb => I.inv.closed j oj (by simpa using hoj) hl e he hb) k hk
        have : k ≠ i := fun h => by rw [h, hiu0] at hlk; cases hlk
        simp [this]
      refine ih (listed.setIfInBounds i true) _ _ w' a' ?_ hf (DInv.conv (dinv_stepW (F := fun i v => F i vals v) (D := fun i v => D i vals v) hB I hin hi hF hst) (fun j hj hl h => hFc j _ _ _ hj (same j hj hl) h) (fun j hj hl => hDc j _ _ _ hj (same j hj hl)))
      have hset : ∀ j, j ≠ i → (listed.setIfInBounds i true).getD j false = listed.getD j false := fun j hj => getD_set_ne false (Ne.symm hj)
      have hii : (listed.setIfInBounds i true).getD i false = true := by
        have hil : i < listed.size := by
          rcases Nat.lt_or_ge i listed.size with h | h
          · exact h
          · simp [Array.getElem?_eq_none h] at hiu
        simp [hil]
      have key : ∀ is : List Nat, is.Nodup → i ∈ is → (is.filter (fun j => !(listed.setIfInBounds i true).getD j false)).length + 1 = (is.filter (fun j => !listed.getD j false)).length := by
        intro is
        induction is with
        | nil => intro _ h; cases h
        | cons j js ihj =>
          intro hn hm
          have hnd := List.nodup_cons.1 hn
          by_cases hji : j = i
          · subst hji
            have e : js.filter (fun k => !(listed.setIfInBounds j true).getD k false) = js.filter (fun k => !listed.getD k false) := List.filter_congr (fun k hk => by
              have : k ≠ j := fun h => hnd.1 (h ▸ hk)
              rw [hset k this])
            rw [List.filter_cons, List.filter_cons, hii, getD_both hiu, e]
            simp
          · have hm' : i ∈ js := by
              rcases List.mem_cons.1 hm with h | h
              · exact absurd h.symm hji
              · exact h
            have := ihj hnd.2 hm'
            rw [List.filter_cons, List.filter_cons, hset j hji]
            split
            · rw [List.length_cons, List.length_cons, ← this]
            · exact this
      have := key (List.range n) List.nodup_range (List.mem_range.2 hin)
      omega

theorem WC.drawW0 {id : Nat} {ρ0 : Env} {w : World} (n : Nat) (F : Nat → (Nat → Value) → Value → Prop) (D : Nat → (Nat → Value) → Value → List Res) (E : Nat → List Res) (u : Nat → Option Nat) (st : St Z w0 w ((List.range n).flatMap E ++ L)) (hm : P.follows .mixedOrders = true) (hB : headB m l n = true) (hU : uB l n u = true) (hFc : ∀ i vals vals' v, i < n → (∀ j, ancB l n i j = true → vals j = vals' j) → F i vals v → F i vals' v) (hDc : ∀ i vals vals' v, i < n → (∀ j, ancB l n i j = true → vals j = vals' j) → D i vals v = D i vals' v)
    (hop : ∀ i o, i < n → l[i]? = some o → ∀ (vals : Nat → Value) (ρ : Env) (w : World) (X : List Res), (∀ j, ancB l n i j = true → F j vals (vals j) ∧ ∀ d, dstOf l j = some d → ρ d = vals j) → (∀ t, (∀ i, i < n → dstOf l i ≠ some t) → ρ t = ρ0 t) → St Z w0 w (X ++ (E i ++ (uD D u i vals ++ L))) →
      WL P m l.toArray (oneQ ρ o.dst (fun v w' => F i vals v ∧ St Z w0 w' (D i vals v ++ (X ++ (uD D u i vals ++ L))))) [o] ρ w)
    (hend : ∀ (vals : Nat → Value) (ρ : Env) (w : World), (∀ i, i < n → F i vals (vals i) ∧ ∀ d, dstOf l i = some d → ρ d = vals i) → (∀ t, (∀ i, i < n → dstOf l i ≠ some t) → ρ t = ρ0 t) → St Z w0 w (flat (fun i v => D i vals v) (fun _ => true) vals (List.range n) ++ L) →
      WL P m l.toArray Q (l.drop n) ρ w) : WC P m (.region id l.toArray true) Q ρ0 w := by
  intro a ha
  refine wp_region_any hm ?_
  have hB' := hB
  simp only [headB, Bool.and_eq_true] at hB'
  have hnl : n ≤ l.length := by simpa [Nat.ble_eq] using hB'.1.1.1.1
  have e0 : ∀ j, (Array.replicate l.toArray.size false).getD j false = false := fun j => getD_replicate_false _ _
  have h0 : DInv m l n Z w0 (flE E (Array.replicate l.toArray.size false) n ++ L) (fun i v => F i (fun _ => undef) v) (fun i v => D i (fun _ => undef) v) ρ0 (Array.replicate l.toArray.size false) (fun _ => undef) ρ0 w.drew := by
    refine ⟨⟨by simp, fun j oj _ hl => (by rw [e0] at hl; cases hl), fun t _ ht => getD_in (by simpa using ht) (e0 t)⟩, fun i _ hl => (by rw [e0] at hl; cases hl), fun _ _ => rfl, ?_⟩
    have : flat (fun i v => D i (fun _ => undef) v) (fun i => (Array.replicate l.toArray.size false).getD i false) (fun _ => undef) (List.range n) = [] := by
      unfold flat
      rw [List.flatMap_eq_nil_iff]
      intro j _
      show (if (Array.replicate l.toArray.size false).getD j false = true then D j (fun _ => undef) undef else []) = []
      rw [e0]; rfl
    rw [this]
    have e2 : flE E (Array.replicate l.toArray.size false) n = (List.range n).flatMap E := by
      unfold flE flat
      congr 1
      funext j
      show (if (!(Array.replicate l.toArray.size false).getD j false) = true then E j else []) = E j
      rw [e0]; rfl
    rw [e2]
    exact st.drew
  have := drawW_any (P := P) (Q := Q) hB hU hFc hDc hop hend n (Array.replicate l.toArray.size false) (fun _ => undef) ρ0 w.drew a (by
    rw [List.filter_eq_self.2 (fun j _ => by rw [e0]; rfl)]; simp) ha h0
  have el : n + (l.drop n).length = l.toArray.size := by simp; omega
  rw [el] at this
  exact this
def ObW (P : Program) (m : Nat) (l : List Oper) (n : Nat) (F : Nat → (Nat → Value) → Value → Prop) (D : Nat → (Nat → Value) → Value → List Res) (E : Nat → List Res) (u : Nat → Option Nat) (Z : Nat → Prop) (w0 : World) (L : List Res) (ρ0 : Env) (i : Nat) : Prop :=
  ∀ (vals : Nat → Value) (ρ : Env) (w : World) (X : List Res), (∀ j, ancB l n i j = true → F j vals (vals j) ∧ ∀ d, dstOf l j = some d → ρ d = vals j) → (∀ t, nodst l n t = true → ρ t = ρ0 t) → St Z w0 w (E i ++ (uD D u i vals ++ (L ++ X))) →
    match l[i]? with | some o => WL P m l.toArray (oneQ ρ o.dst (fun v w' => F i vals v ∧ St Z w0 w' (D i vals v ++ (uD D u i vals ++ (L ++ X))))) [o] ρ w | none => False
theorem WC.drawW {id : Nat} {ρ0 : Env} {w : World} (n : Nat) (F : Nat → (Nat → Value) → Value → Prop) (D : Nat → (Nat → Value) → Value → List Res) (E : Nat → List Res) (u : Nat → Option Nat) (st : St Z w0 w ((List.range n).flatMap E ++ L)) (hm : P.follows .mixedOrders = true) (hB : headB m l n = true) (hU : uB l n u = true)
    (hFc : ∀ i, i < n → HFc l n F i) (hDc : ∀ i, i < n → HDc l n D i) (hop : ∀ i, i < n → ObW P m l n F D E u Z w0 L ρ0 i)
    (hend : ∀ (vals : Nat → Value) (ρ : Env) (w : World), (∀ i, Nat.blt i n = true → F i vals (vals i) ∧ ∀ d, dstOf l i = some d → ρ d = vals i) → (∀ t, nodst l n t = true → ρ t = ρ0 t) → St Z w0 w (flat (fun i v => D i vals v) (fun _ => true) vals (List.range n) ++ L) →
      WL P m l.toArray Q (l.drop n) ρ w) : WC P m (.region id l.toArray true) Q ρ0 w := by
  have old : ∀ {ρ : Env}, (∀ t, (∀ i, i < n → dstOf l i ≠ some t) → ρ t = ρ0 t) → ∀ t, nodst l n t = true → ρ t = ρ0 t := fun h t ht => h t (nodst_spec ht)
  refine WC.drawW0 n F D E u st hm hB hU (fun i a b v hi => hFc i hi a b v) (fun i a b v hi => hDc i hi a b v) ?_ (fun vals ρ w h1 h2 h3 => hend vals ρ w (fun i hi => h1 i (by simpa [Nat.blt_eq] using hi)) (old h2) h3)
  intro i o hi ho vals ρ w X hd h0 hst
  have h := hop i hi vals ρ w X hd (old h0) (St.perm (List.perm_append_comm.trans (List.Perm.of_eq (by simp only [List.append_assoc]))) hst)
  rw [ho] at h
  change WL P m l.toArray (oneQ ρ o.dst (fun v w' => F i vals v ∧ St Z w0 w' (D i vals v ++ (uD D u i vals ++ (L ++ X))))) [o] ρ w at h
  intro a ha
  have e : (oneQ ρ o.dst (fun v w' => F i vals v ∧ St Z w0 w' (D i vals v ++ (uD D u i vals ++ (L ++ X))))) = (oneQ ρ o.dst (fun v w' => F i vals v ∧ St Z w0 w' (D i vals v ++ (X ++ (uD D u i vals ++ L))))) := by
    funext ex ρ' w'
    apply propext
    constructor
    · rintro ⟨h1, v, h2, h3, h4⟩
      exact ⟨h1, v, h2, h3, St.perm (List.Perm.append_left _ ((List.Perm.of_eq (List.append_assoc _ _ _).symm).trans List.perm_append_comm)) h4⟩
    · rintro ⟨h1, v, h2, h3, h4⟩
      exact ⟨h1, v, h2, h3, St.perm (List.Perm.append_left _ ((List.perm_append_comm_assoc _ _ _).trans (List.Perm.append_left _ List.perm_append_comm))) h4⟩
  rw [e] at h
  exact h a ha
theorem UL.cut {c : Code} {k : Nat} {ρ : Env} {w : World} (I : Env → Prop) (h0 : I ρ) (h : ∀ ρ', I ρ' → UL P n c Q k ρ' w) : UL P n c Q k ρ w := h ρ h0
theorem US.cut {c : Code} {l k : Nat} {ρ : Env} {w : World} (I : Env → Prop) (h0 : I ρ) (h : ∀ ρ', I ρ' → US P n l c Q k ρ' w) : US P n l c Q k ρ w := h ρ h0
/-- append, the cells that are put behind kept. -/
theorem OpT.appendK {ρ : Env} {w : World} {K : Value → World → Prop} {d : Option Tmp} {ty : TypeId} {pos : String} {after : Array Edge} {gd : Option (Nat × Bool)} {t e sz n b : Nat} {x y : Operand} {z v : Value} {cs xs : List Value} {by_ : Nat} (st : St Z w0 w (Blk b e xs :: Row e sz v n cs :: L)) (m : Nat) (hu : P.underlying t = some (.slice e)) (hs : sizeB P e = some sz) (hz : zeroB P e = some z) (hzc : z.cells.size = sz) (hb : (P.info? e).map (·.bytes) = some by_) (h0 : 0 < sz)
    (hx : evO ρ x = v) (hy : evO ρ y = .slice (some ⟨b, 0, none⟩) m m) (hm : xs.length = m * sz) (h1 : xs.all Value.oneCell' = true) (hl : (n + m) * by_ ≤ 140737488355328) (hl2 : n + m ≤ 140737488355328)
    (hK : ∀ v' w', St Z w0 w' (Blk b e xs :: Row e sz v' (n + m) (cs ++ xs) :: L) → (v' = .slice none 0 0 ↔ v = .slice none 0 0 ∧ m = 0) → K v' w') : OpT P ⟨d, .call ⟨.builtin .append, #[x, y], #[t, t]⟩, ty, pos, after, gd⟩ ρ w K := by
  obtain ⟨Z', hz', hw', hr, st1, bk⟩ := St.freezeB st
  obtain ⟨i, hi, hsz⟩ := Option.map_eq_some_iff.1 hs
  have hz' : i.zero = some z := by
    unfold zeroB at hz
    rw [hi] at hz
    exact hz
  have hb' : i.bytes = by_ := by rw [hi] at hb; simpa using hb
  have hrow := st1.row (i := 0) rfl
  have hcell : ∀ j u, xs[j]? = some u → w.cell? ((⟨b, 0, none⟩ : Addr).add j) = some u := hr.at st1
  obtain ⟨v', w', hr2, hown, hg, hnil, hat⟩ := run_append_own_at (P := P) w 0 t ty e i z sz by_ hu hi hz' hsz hb' hzc h0 v n cs hrow ⟨b, 0, none⟩ m m xs hm hcell (by simpa using h1) (by simp only [maxLen]; omega) hl (Nat.zero_le _)
  refine OpT.val (v := v') (w' := w') ?_ (hK v' w' (bk _ _ ?_) hnil)
  · simp only [execOp, resolve, invoke, builtin, Sem.run_bind, Sem.run_pure, Result.andThen_ok, List.map_toArray, List.map_cons, List.map_nil, hx, hy, hr2]
  · obtain ⟨S, ⟨hS, _⟩, hlt, H⟩ := st1.focus (i := 0) rfl
    refine H w' (Row e sz v' (n + m) (cs ++ xs)) (fun k => v'.ownBlock = some k) hg.os hg.tape hg.output hg.size (fun k hk hns => hg.block k hk (fun h => hns ((hS k).2 h.symm))) ⟨fun _ => Iff.rfl, hown⟩ ?_
    intro k hk
    have hlt' : k < w'.heap.size := by
      rcases hown.2 with ⟨rfl, _⟩ | ⟨g, cap, cur, rfl, _, hgg, _⟩
      · simp [Value.ownBlock] at hk
      · simp [Value.ownBlock] at hk
        subst hk
        exact (Array.getElem?_eq_some_iff.1 hgg).1
    refine ⟨hlt', ?_⟩
    rcases hat with h | h
    · exact .inl ((hS k).2 (h ▸ hk))
    · rw [h] at hk
      simp at hk
      right; omega
end
end Go.Eng
namespace Go.Eng
open Go.RowKit
abbrev En := ByteArray × Value × List ByteArray
abbrev Gm := List (ByteArray × List ByteArray)
abbrev enM (e : List En) : List (ByteArray × Value) := e.map fun p => (p.1, p.2.1)
abbrev enG (e : List En) : Gm := e.map fun p => (p.1, p.2.2)
abbrev enR (e : List En) : List Res := e.map fun p => Row 9 1 p.2.1 p.2.2.length (p.2.2.map Value.string)
/-- The map of a graph. -/
abbrev Mv (mb : Nat) (m : List (ByteArray × Value)) : Res := Mp Value.string (fun v : Value => v) mb m
/-- A graph of one's own. -/
def Gra (mb : Nat) (g : Gm) : Res := Ex fun e : List En => Pk (Fact (enG e = g) :: Mv mb (enM e) :: enR e)
section
variable {κ α : Type} [DecidableEq κ]
theorem mget_at {A B : List (κ × α)} {k : κ} {v : α} (h : k ∉ A.map Prod.fst) : mget (A ++ (k, v) :: B) k = some v := by
  induction A with
  | nil => simp [mget_cons]
  | cons p A ih =>
    simp only [List.map_cons, List.mem_cons, not_or] at h
    rw [List.cons_append, mget_cons, if_neg (fun e => h.1 e.symm), ih h.2]
theorem mset_at {A B : List (κ × α)} {k : κ} {v u : α} (h : k ∉ A.map Prod.fst) : mset (A ++ (k, v) :: B) k u = A ++ (k, u) :: B := by
  induction A with
  | nil => simp [mset_cons]
  | cons p A ih =>
    simp only [List.map_cons, List.mem_cons, not_or] at h
    rw [List.cons_append, mset_cons, if_neg (fun e => h.1 e.symm), ih h.2, List.cons_append]
theorem mset_new {m : List (κ × α)} {k : κ} {v : α} (h : (mget m k).isSome = false) : mset m k v = m ++ [(k, v)] := by
  induction m with
  | nil => rfl
  | cons p m ih =>
    rw [mget_cons] at h
    by_cases hp : p.1 = k
    · simp [hp] at h
    · rw [if_neg hp] at h
      rw [mset_cons, if_neg hp, ih h, List.cons_append]
theorem mget_some_mem {m : List (κ × α)} {k : κ} : (mget m k).isSome = decide (k ∈ m.map Prod.fst) := by
  induction m with
  | nil => rfl
  | cons p m ih =>
    rw [mget_cons]
    by_cases hp : p.1 = k
    · simp [hp]
    · rw [if_neg hp, ih]
      have : ¬ k = p.1 := fun e => hp e.symm
      simp [this]
end
theorem en_some (e : List En) (k : ByteArray) : (mget (enM e) k).isSome = (mget (enG e) k).isSome := by
  rw [mget_some_mem, mget_some_mem]
  simp [enM, enG, List.map_map, Function.comp_def]
theorem en_split {e : List En} {k : ByteArray} (h : (mget (enG e) k).isSome = true) : ∃ e1 v xs e2, e = e1 ++ (k, v, xs) :: e2 ∧ k ∉ e1.map Prod.fst := by
  induction e with
  | nil => cases h
  | cons p e ih =>
    by_cases hp : p.1 = k
    · obtain ⟨a, v, xs⟩ := p
      cases hp
      exact ⟨[], v, xs, e, rfl, by simp⟩
    · rw [show enG (p :: e) = (p.1, p.2.2) :: enG e from rfl, mget_cons, if_neg hp] at h
      obtain ⟨e1, v, xs, e2, rfl, h2⟩ := ih h
      exact ⟨p :: e1, v, xs, e2, rfl, by simp only [List.map_cons, List.mem_cons, not_or]; exact ⟨fun e => hp e.symm, h2⟩⟩
theorem enM_get {e1 e2 : List En} {k : ByteArray} {v : Value} {xs : List ByteArray} (h : k ∉ e1.map Prod.fst) : mget (enM (e1 ++ (k, v, xs) :: e2)) k = some v := by
  simp only [enM, List.map_append, List.map_cons]
  exact mget_at (by simpa [List.map_map, Function.comp_def] using h)
theorem enG_get {e1 e2 : List En} {k : ByteArray} {v : Value} {xs : List ByteArray} (h : k ∉ e1.map Prod.fst) : mget (enG (e1 ++ (k, v, xs) :: e2)) k = some xs := by
  simp only [enG, List.map_append, List.map_cons]
  exact mget_at (by simpa [List.map_map, Function.comp_def] using h)
section
variable {Z : Nat → Prop} {w0 w : World} {L : List Res} {mb : Nat} {g : Gm}
theorem St.gra (st : St Z w0 w (Gra mb g :: L)) : ∃ e : List En, enG e = g ∧ St Z w0 w (Mv mb (enM e) :: (enR e ++ L)) := by
  obtain ⟨e, st⟩ := st.ex
  have st := st.pk
  exact ⟨e, st.fact (i := 0) rfl, st.tl⟩
theorem St.graI {e : List En} (st : St Z w0 w (Mv mb (enM e) :: (enR e ++ L))) : St Z w0 w (Gra mb (enG e) :: L) :=
  St.exI e (St.pkI (st.factI rfl))
theorem St.graNil (st : St Z w0 w (Mv mb [] :: L)) : St Z w0 w (Gra mb [] :: L) := St.graI (e := []) st
/-- The row of one name taken out. -/
theorem St.graTake {e1 e2 : List En} {k : ByteArray} {v : Value} {xs : List ByteArray} (st : St Z w0 w (Mv mb (enM (e1 ++ (k, v, xs) :: e2)) :: (enR (e1 ++ (k, v, xs) :: e2) ++ L))) :
    St Z w0 w (Mv mb (enM (e1 ++ (k, v, xs) :: e2)) :: Row 9 1 v xs.length (xs.map Value.string) :: (enR e1 ++ (enR e2 ++ L))) := by
  refine St.perm ?_ st
  refine List.Perm.cons _ ?_
  have : enR (e1 ++ (k, v, xs) :: e2) ++ L = enR e1 ++ (Row 9 1 v xs.length (xs.map Value.string) :: (enR e2 ++ L)) := by simp [enR]
  rw [this]
  exact List.perm_middle
theorem St.graAdd {e1 e2 : List En} {k t : ByteArray} {v u : Value} {xs : List ByteArray} (h : k ∉ e1.map Prod.fst)
    (st : St Z w0 w (Mv mb (mset (enM (e1 ++ (k, v, xs) :: e2)) k u) :: Row 9 1 u (xs.length + 1) (xs.map Value.string ++ [.string t]) :: (enR e1 ++ (enR e2 ++ L)))) : St Z w0 w (Gra mb (mset (enG (e1 ++ (k, v, xs) :: e2)) k (xs ++ [t])) :: L) := by
  have h' : k ∉ (enM e1).map Prod.fst := by simpa [List.map_map, Function.comp_def] using h
  have h'' : k ∉ (enG e1).map Prod.fst := by simpa [List.map_map, Function.comp_def] using h
  have e1' : mset (enM (e1 ++ (k, v, xs) :: e2)) k u = enM (e1 ++ (k, u, xs ++ [t]) :: e2) := by
    simp only [enM, List.map_append, List.map_cons]; exact mset_at h'
  have e2' : mset (enG (e1 ++ (k, v, xs) :: e2)) k (xs ++ [t]) = enG (e1 ++ (k, u, xs ++ [t]) :: e2) := by
    simp only [enG, List.map_append, List.map_cons]; exact mset_at h''
  rw [e2']
  rw [e1'] at st
  refine St.graI (St.perm ?_ st)
  refine List.Perm.cons _ ?_
  have : enR (e1 ++ (k, u, xs ++ [t]) :: e2) ++ L = enR e1 ++ (Row 9 1 u (xs.length + 1) (xs.map Value.string ++ [.string t]) :: (enR e2 ++ L)) := by simp [enR]
  rw [this]
  exact List.perm_middle.symm
theorem St.graNew {e : List En} {k : ByteArray} (h : (mget (enM e) k).isSome = false) (st : St Z w0 w (Mv mb (mset (enM e) k vn) :: (enR e ++ L))) : St Z w0 w (Gra mb (mset (enG e) k []) :: L) := by
  have h2 := h
  rw [en_some] at h2
  rw [mset_new h2]
  rw [mset_new h] at st
  have st2 : St Z w0 w (Mv mb (enM (e ++ [(k, vn, [])])) :: (enR (e ++ [(k, vn, [])]) ++ L)) := by
    have st3 : St Z w0 w (Row 9 1 vn 0 [] :: Mv mb (enM (e ++ [(k, vn, [])])) :: (enR e ++ L)) := by
      have := st.rowNil 9 1
      simpa [enM] using this
    refine St.perm ?_ st3
    refine (List.Perm.swap _ _ _).trans (List.Perm.cons _ ?_)
    have : enR (e ++ [(k, vn, [])]) ++ L = enR e ++ (Row 9 1 vn 0 [] :: L) := by simp [enR]
    rw [this]
    exact List.perm_middle.symm
  have := st2.graI
  simpa [enG] using this
/-! frozen -/
theorem St.self (st : St Z w0 w L) : Ext Z w0 Z w ∧ St Z w w L :=
  ⟨⟨fun _ h => h, st.old, fun _ _ h => ⟨h.os.trans st.os, h.tape.trans st.tape, h.output.trans st.output, Nat.le_trans st.size h.size, st.dom, fun k hk => (h.old k hk).trans (st.old k hk), h.sep⟩⟩,
   ⟨rfl, rfl, rfl, Nat.le_refl _, fun k hk => Nat.lt_of_lt_of_le (st.dom k hk) st.size, fun _ _ => rfl, st.sep⟩⟩
theorem St.enF {e : List En} : ∀ {Z : Nat → Prop} {w0 : World}, (∀ p ∈ e, p.2.2.length < 1073741824) → St Z w0 w (enR e ++ L) → ∃ Z', Ext Z w0 Z' w ∧ (∀ p ∈ e, rStr.sl Z' w p.2.1 p.2.2) ∧ St Z' w w L := by
  induction e with
  | nil => intro Z w0 _ st; exact ⟨Z, st.self.1, ⟨fun p h => (by cases h), st.self.2⟩⟩
  | cons p e ih =>
    intro Z w0 hl st
    obtain ⟨Z1, h1, s1, st1⟩ := St.freezeRow (r := rStr) st (hl p (by simp)) str_at
    obtain ⟨Z2, h2, s2, st2⟩ := ih (fun q hq => hl q (by simp [hq])) st1
    refine ⟨Z2, h1.trans h2, fun q hq => ?_, st2⟩
    rcases List.mem_cons.1 hq with rfl | hq
    · exact h2.sl s1
    · exact s2 q hq
/-- What a frozen graph's map holds. -/
structure GF (Z : Nat → Prop) (w0 : World) (m : List (ByteArray × Value)) (g : Gm) : Prop where
  key : m.map Prod.fst = g.map Prod.fst
  rd : ∀ k, rStr.sl Z w0 ((mget m k).getD vn) ((mget g k).getD [])
theorem GF.ext {Z1 : Nat → Prop} {w1 : World} {m : List (ByteArray × Value)} (h : GF Z w0 m g) (x : Ext Z w0 Z1 w1) : GF Z1 w1 m g := ⟨h.key, fun k => x.sl (h.rd k)⟩
theorem GF.of {e : List En} (h : ∀ p ∈ e, rStr.sl Z w0 p.2.1 p.2.2) : GF Z w0 (enM e) (enG e) := by
  refine ⟨by simp [List.map_map, Function.comp_def], fun k => ?_⟩
  induction e with
  | nil => exact Rl.sl_nil _ _ _ _ _
  | cons p e ih =>
    rw [show enG (p :: e) = (p.1, p.2.2) :: enG e from rfl, show enM (p :: e) = (p.1, p.2.1) :: enM e from rfl, mget_cons, mget_cons]
    by_cases hp : p.1 = k
    · rw [if_pos hp, if_pos hp]; exact h p (by simp)
    · rw [if_neg hp, if_neg hp]; exact ih (fun q hq => h q (by simp [hq]))
theorem St.graF (st : St Z w0 w (Gra mb g :: L)) (hl : ∀ p ∈ g, p.2.length < 1073741824) : ∃ Z' m, Ext Z w0 Z' w ∧ GF Z' w m g ∧ St Z' w w (Mv mb m :: L) := by
  obtain ⟨e, rfl, st2⟩ := st.gra
  obtain ⟨Z', hx, hs, st'⟩ := St.enF (e := e) (fun p hp => hl (p.1, p.2.2) (List.mem_map_of_mem (f := fun p : En => (p.1, p.2.2)) hp)) (St.perm List.perm_middle.symm st2)
  exact ⟨Z', enM e, hx, GF.of hs, st'⟩
end
end Go.Eng
namespace Go.Eng
open Go.RowKit
section
variable {P : Program} {n : Nat} {Q : QP} {ρ : Env} {w : World}
theorem jmpQ_mono {l : Nat} {J J' : Env → World → Prop} (h : ∀ ρ w, J ρ w → J' ρ w) {e : Exit} (hq : jmpQ l J Q e ρ w) : jmpQ l J' Q e ρ w := by
  cases e <;> first | exact ⟨hq.1, h _ _ hq.2⟩ | exact hq
theorem US.mono {l : Nat} {c : Code} : ∀ {k k' : Nat}, k ≤ k' → ∀ {ρ : Env} {w : World}, US P n l c Q k ρ w → US P n l c Q k' ρ w
  | 0, _, _, _, _, h => h.elim
  | k + 1, 0, h, _, _, _ => absurd h (by omega)
  | k + 1, k' + 1, hk, ρ, w, h => by
    refine US.go (WC.mono h ?_)
    intro e ρ w hq
    exact jmpQ_mono (fun ρ w hu => US.mono (Nat.le_of_succ_le_succ hk) hu) hq
theorem WC.again {R : Code} {l K : Nat} (I : Nat → Env → World → Prop) (h0 : I K ρ w) (hs : ∀ m ρ w, I m ρ w → ∀ J : Env → World → Prop, (∀ ρ' w' m', m' < m → I m' ρ' w' → J ρ' w') → WC P n R (jmpQ l J Q) ρ w) :
    WC P n R (jmpQ l (US P n l (.seq .skip R) Q K) Q) ρ w := by
  induction K using Nat.strongRecOn generalizing ρ w with
  | _ K ih =>
    refine hs K ρ w h0 _ ?_
    intro ρ' w' m' hm hI
    exact US.mono hm (US.go (WC.seq (WC.skip (thenQ_n (ih m' hm hI)))))
theorem wrapI_i32 {a : Int} (h1 : -2147483648 ≤ a) (h2 : a ≤ 2147483647) : IntKind.i32.wrap a = a := IntWalk.i32_in _ (by omega)
end
end Go.Eng
namespace Go.Eng
open Go.RowKit
theorem made_rep (z : Value) (n : Nat) : (madeCells #[z] (n * 1)).toList = List.replicate n z := by
  unfold madeCells
  rw [Nat.mul_one, Array.toList_map, Array.toList_range]
  apply List.ext_getElem
  · simp
  · intro i h1 h2
    simp [Nat.mod_one]
abbrev An := Value × List Int
abbrev abC (e : List An) : List Value := e.map Prod.fst
abbrev abR (e : List An) : List Res := e.map fun p => Row 3 1 p.1 p.2.length (p.2.map (Value.int .i64))
def Abv (t ab : Nat) (l : List (List Int)) : Res := Ex fun e : List An => Pk (Fact (e.map Prod.snd = l) :: Blk ab t (abC e) :: abR e)
abbrev rInt : Rl Int := Rl.int .i64
theorem ab_split {e : List An} {k : Nat} (h : k < e.length) : ∃ e1 v xs e2, e = e1 ++ (v, xs) :: e2 ∧ e1.length = k :=
  ⟨e.take k, e[k].1, e[k].2, e.drop (k + 1), (show e.take k ++ e[k] :: e.drop (k + 1) = e from by simp).symm, by rw [List.length_take]; omega⟩
section
variable {Z : Nat → Prop} {w0 w : World} {L : List Res} {t ab : Nat} {l : List (List Int)}
theorem St.abv (st : St Z w0 w (Abv t ab l :: L)) : ∃ e : List An, e.map Prod.snd = l ∧ St Z w0 w (Blk ab t (abC e) :: (abR e ++ L)) := by
  obtain ⟨e, st⟩ := st.ex
  have st := st.pk
  exact ⟨e, st.fact (i := 0) rfl, st.tl⟩
theorem St.abvI {e : List An} (st : St Z w0 w (Blk ab t (abC e) :: (abR e ++ L))) : St Z w0 w (Abv t ab (e.map Prod.snd) :: L) := St.exI e (St.pkI (st.factI rfl))
theorem St.abvNil {n : Nat} (st : St Z w0 w (Blk ab t (List.replicate n vn) :: L)) : St Z w0 w (Abv t ab (List.replicate n []) :: L) := by
  have h : ∀ (n : Nat) {L : List Res}, St Z w0 w L → St Z w0 w (abR (List.replicate n (vn, ([] : List Int))) ++ L) := by
    intro n
    induction n with
    | zero => intro L st; exact st
    | succ n ih => intro L st; exact (ih st).rowNil 3 1
  have e1 : abC (List.replicate n (vn, ([] : List Int))) = List.replicate n vn := by simp [abC]
  have e2 : (List.replicate n (vn, ([] : List Int))).map Prod.snd = List.replicate n [] := by simp
  rw [← e2]
  refine St.abvI ?_
  rw [e1]
  exact St.perm List.perm_middle (h n st)
theorem St.abvTake {e1 e2 : List An} {v : Value} {xs : List Int} (st : St Z w0 w (Blk ab t (abC (e1 ++ (v, xs) :: e2)) :: (abR (e1 ++ (v, xs) :: e2) ++ L))) :
    St Z w0 w (Blk ab t (abC (e1 ++ (v, xs) :: e2)) :: Row 3 1 v xs.length (xs.map (Value.int .i64)) :: (abR e1 ++ (abR e2 ++ L))) := by
  refine St.perm ?_ st
  refine List.Perm.cons _ ?_
  have : abR (e1 ++ (v, xs) :: e2) ++ L = abR e1 ++ (Row 3 1 v xs.length (xs.map (Value.int .i64)) :: (abR e2 ++ L)) := by simp [abR]
  rw [this]
  exact List.perm_middle
theorem St.abvPut {e1 e2 : List An} {v u : Value} {xs : List Int} {i : Int} (st : St Z w0 w (Blk ab t ((abC (e1 ++ (v, xs) :: e2)).set e1.length u) :: Row 3 1 u (xs.length + 1) (xs.map (Value.int .i64) ++ [.int .i64 i]) :: (abR e1 ++ (abR e2 ++ L)))) :
    St Z w0 w (Abv t ab (((e1 ++ (v, xs) :: e2).map Prod.snd).set e1.length (xs ++ [i])) :: L) := by
  have h1 : (abC (e1 ++ (v, xs) :: e2)).set e1.length u = abC (e1 ++ (u, xs ++ [i]) :: e2) := by simp [abC]
  have h2 : ((e1 ++ (v, xs) :: e2).map Prod.snd).set e1.length (xs ++ [i]) = (e1 ++ (u, xs ++ [i]) :: e2).map Prod.snd := by simp
  rw [h2]
  rw [h1] at st
  refine St.abvI (St.perm ?_ st)
  refine List.Perm.cons _ ?_
  have : abR (e1 ++ (u, xs ++ [i]) :: e2) ++ L = abR e1 ++ (Row 3 1 u (xs.length + 1) (xs.map (Value.int .i64) ++ [.int .i64 i]) :: (abR e2 ++ L)) := by simp [abR]
  rw [this]
  exact List.perm_middle.symm
/-- One row is taken out, the others put behind. -/
theorem St.abvOpen {K : List Res} {k : Nat} (hk : k < l.length) (st : St Z w0 w (Abv t ab l :: (K ++ L))) : ∃ e1 v xs e2, e1.length = k ∧ (e1 ++ (v, xs) :: e2).map Prod.snd = l ∧ l[k]? = some xs ∧ (abC (e1 ++ (v, xs) :: e2))[k]? = some v ∧ (abC (e1 ++ (v, xs) :: e2)).length = l.length ∧
    St Z w0 w (Blk ab t (abC (e1 ++ (v, xs) :: e2)) :: Row 3 1 v xs.length (xs.map (Value.int .i64)) :: (K ++ (abR e1 ++ (abR e2 ++ L)))) := by
  obtain ⟨e, he, st⟩ := st.abv
  have hl : e.length = l.length := by rw [← he, List.length_map]
  obtain ⟨e1, v, xs, e2, rfl, h1⟩ := ab_split (e := e) (k := k) (by omega)
  refine ⟨e1, v, xs, e2, h1, he, ?_, ?_, by rw [← hl]; simp, ?_⟩
  · rw [← he, ← h1]; simp
  · rw [← h1]; simp [abC]
  · refine St.perm (List.Perm.cons _ (List.Perm.cons _ ?_)) st.abvTake
    exact ((List.Perm.append_left _ (List.perm_append_comm_assoc (abR e2) K L)).trans (List.perm_append_comm_assoc (abR e1) K (abR e2 ++ L)))
theorem St.abvShut {K : List Res} {e1 e2 : List An} {v u : Value} {xs : List Int} {i : Int} {k : Nat} (h1 : e1.length = k) (h2 : (e1 ++ (v, xs) :: e2).map Prod.snd = l)
    (st : St Z w0 w (Blk ab t ((abC (e1 ++ (v, xs) :: e2)).set k u) :: Row 3 1 u (xs.length + 1) (xs.map (Value.int .i64) ++ [.int .i64 i]) :: (K ++ (abR e1 ++ (abR e2 ++ L))))) : St Z w0 w (Abv t ab (l.set k (xs ++ [i])) :: (K ++ L)) := by
  subst h1 h2
  refine St.abvPut (St.perm (List.Perm.cons _ (List.Perm.cons _ ?_)) st)
  exact (List.perm_append_comm_assoc K (abR e1) (abR e2 ++ L)).trans (List.Perm.append_left _ (List.perm_append_comm_assoc K (abR e2) L))
theorem int_at {xs : List Int} (i : Nat) (x : Int) (hx : xs[i]? = some x) : rInt.R Z w0 (((xs.map (Value.int .i64)).drop (i * rInt.sz)).take rInt.sz) x := by
  show List.take 1 (List.drop (i * 1) _) = [Value.int .i64 x]
  rw [Nat.mul_one, List.take_one, List.head?_drop, List.getElem?_map, hx]
  rfl
theorem St.abF {e : List An} : ∀ {Z : Nat → Prop} {w0 : World}, (∀ p ∈ e, p.2.length < 1073741824) → St Z w0 w (abR e ++ L) → ∃ Z', Ext Z w0 Z' w ∧ (∀ p ∈ e, rInt.sl Z' w p.1 p.2) ∧ St Z' w w L := by
  induction e with
  | nil => intro Z w0 _ st; exact ⟨Z, st.self.1, ⟨fun p h => (by cases h), st.self.2⟩⟩
  | cons p e ih =>
    intro Z w0 hl st
    obtain ⟨Z1, h1, s1, st1⟩ := St.freezeRow (r := rInt) st (hl p (by simp)) int_at
    obtain ⟨Z2, h2, s2, st2⟩ := ih (fun q hq => hl q (by simp [hq])) st1
    refine ⟨Z2, h1.trans h2, fun q hq => ?_, st2⟩
    rcases List.mem_cons.1 hq with rfl | hq
    · exact h2.sl s1
    · exact s2 q hq
theorem St.abvF (st : St Z w0 w (Abv t ab l :: L)) (hl : ∀ x ∈ l, x.length < 1073741824) (hn : l.length < 1073741824) (c : Nat) : ∃ Z', Ext Z w0 Z' w ∧ (Rl.list rInt).sl Z' w (sl ab l.length c) l ∧ St Z' w w L := by
  obtain ⟨e, rfl, st2⟩ := st.abv
  obtain ⟨Z1, h1, s1, st1⟩ := St.abF (e := e) (fun p hp => hl p.2 (List.mem_map_of_mem hp)) (St.perm List.perm_middle.symm st2)
  obtain ⟨Z2, h2, r2, st3⟩ := st1.freezeBX
  refine ⟨Z2, h1.trans h2, Rl.sl_blk r2 (by omega) ?_, st3⟩
  intro i x hx
  rw [List.getElem?_map] at hx
  cases he : e[i]? with
  | none => rw [he] at hx; cases hx
  | some p =>
    rw [he] at hx
    cases hx
    refine ⟨p.1, ?_, h2.sl (s1 p (List.mem_of_getElem? he))⟩
    show List.take 1 (List.drop (i * 1) _) = _
    rw [Nat.mul_one, List.take_one, List.head?_drop, List.getElem?_map, he]
    rfl
end
end Go.Eng
namespace Go.Eng
open Go.RowKit
section
variable {P : Program} {Z : Nat → Prop} {w0 w : World} {L : List Res} {ρ : Env} {K : Value → World → Prop} {d : Option Tmp} {ty : TypeId} {pos : String} {after : Array Edge} {gd : Option (Nat × Bool)}
theorem OpT.appendR {t e n : Nat} {x y : Operand} {z v u : Value} {cs : List Value} {xs : List ByteArray} {by_ : Nat} (st : St Z w0 w (Row e 1 v n cs :: L)) (hu : P.underlying t = some (.slice e)) (hs : sizeB P e = some 1) (hz : zeroB P e = some z) (hzc : z.cells.size = 1) (hb : (P.info? e).map (·.bytes) = some by_)
    (hx : evO ρ x = v) (hy : evO ρ y = u) (hr : (Rl.str).sl Z w0 u xs) (hl : (n + xs.length) * by_ ≤ 140737488355328) (hl2 : n + xs.length ≤ 140737488355328)
    (hK : ∀ v' w', St Z w0 w' (Row e 1 v' (n + xs.length) (cs ++ xs.map Value.string) :: L) → K v' w') : OpT P ⟨d, .call ⟨.builtin .append, #[x, y], #[t, t]⟩, ty, pos, after, gd⟩ ρ w K := by
  obtain ⟨i, hi, hsz⟩ := Option.map_eq_some_iff.1 hs
  have hz' : i.zero = some z := by
    unfold zeroB at hz
    rw [hi] at hz
    exact hz
  have hb' : i.bytes = by_ := by rw [hi] at hb; simpa using hb
  have hrow := st.row (i := 0) rfl
  obtain ⟨A, c, rfl, hn, hg⟩ := hr
  cases A with
  | none =>
    have hxs : xs = [] := by
      cases xs with
      | nil => rfl
      | cons a xs => obtain ⟨ad, _, h, _⟩ := hg 0 a rfl; cases h
    subst hxs
    have hr : (Builtin.append_ #[t, t] ty #[v, .slice none 0 c]).run P w = .ok v w := by
      rcases hrow.2 with ⟨rfl, rfl⟩ | ⟨g, cap, cur, rfl, _, _, hnc, _⟩
      · simp [Builtin.append_, run_underlying hu, sizeOf, typeInfo, hi, Builtin.lenOf, Builtin.firstCells]
      · simp [Builtin.append_, run_underlying hu, sizeOf, typeInfo, hi, Builtin.lenOf, Builtin.firstCells, hnc, storeCells]
    refine OpT.val (v := v) (w' := w) ?_ (hK v w (by simpa using st))
    simp only [execOp, resolve, invoke, builtin, Sem.run_bind, Sem.run_pure, Result.andThen_ok, List.map_toArray, List.map_cons, List.map_nil, hx, hy]
    simp only [List.length_nil, hr, Result.andThen_ok, Sem.run_pure]
  | some ad =>
    have hcell : ∀ j q, (xs.map Value.string)[j]? = some q → w.cell? (ad.add j) = some q := by
      intro j q hq
      rw [List.getElem?_map] at hq
      cases hj : xs[j]? with
      | none => rw [hj] at hq; cases hq
      | some s =>
        rw [hj] at hq
        cases hq
        obtain ⟨ad', cs', e1, h1, h2⟩ := hg j s hj
        cases e1
        have h2 : cs' = [Value.string s] := h2
        subst h2
        have := h1.cell st (j := 0) rfl
        rw [show (Rl.str).sz = 1 from rfl, Nat.mul_one] at this
        rw [Addr.add_zero'] at this
        exact this
    obtain ⟨v', w', hr, hown, hg2, hnil, hat⟩ := run_append_own_at (P := P) w 0 t ty e i z 1 by_ hu hi hz' hsz hb' hzc (by decide) v n cs hrow ad xs.length c (xs.map Value.string) (by simp) hcell (fun u hu => by
      obtain ⟨s, _, rfl⟩ := List.mem_map.1 hu
      rfl) (by simp only [maxLen]; omega) hl (Nat.zero_le _)
    refine OpT.val (v := v') (w' := w') ?_ (hK v' w' ?_)
    · simp only [execOp, resolve, invoke, builtin, Sem.run_bind, Sem.run_pure, Result.andThen_ok, List.map_toArray, List.map_cons, List.map_nil, hx, hy, hr]
    · obtain ⟨S, ⟨hS, _⟩, hlt, H⟩ := st.focus (i := 0) rfl
      refine H w' (Row e 1 v' (n + xs.length) (cs ++ xs.map Value.string)) (fun k => v'.ownBlock = some k) hg2.os hg2.tape hg2.output hg2.size (fun k hk hns => hg2.block k hk (fun h => hns ((hS k).2 h.symm))) ⟨fun _ => Iff.rfl, hown⟩ ?_
      intro k hk
      have hlt' : k < w'.heap.size := by
        rcases hown.2 with ⟨rfl, _⟩ | ⟨g, cap, cur, rfl, _, hgg, _⟩
        · simp [Value.ownBlock] at hk
        · simp [Value.ownBlock] at hk
          subst hk
          exact (Array.getElem?_eq_some_iff.1 hgg).1
      refine ⟨hlt', ?_⟩
      rcases hat with h | h
      · exact .inl ((hS k).2 (h ▸ hk))
      · rw [h] at hk
        simp at hk
        right; omega
theorem OpT.bieq {t : TypeId} {x y : Operand} {yt : TypeId} (a b c : Bool) (hu : P.underlying t = some .bool) (hx : evO ρ x = .bool a) (hy : evO ρ y = .bool b) (hc : (a == b) = c) (hK : K (.bool c) w) : OpT P ⟨d, .binOp .eql t x y yt, ty, pos, after, gd⟩ ρ w K := by
  subst hc
  exact OpT.val (v := .bool (a == b)) (by simp only [execOp, hx, hy]; simp [eqGuard_at_bool, binOp, run_equal_bool w t a b hu]) hK
theorem WC.seqJ {n : Nat} {Q : QP} {x y : Code} (I : Env → World → Prop) (h1 : WC P n x (thenQ I Q) ρ w) (h2 : ∀ ρ w, I ρ w → WC P n y Q ρ w) : WC P n (.seq x y) Q ρ w :=
  WC.seq (WC.mono h1 (fun e ρ w h => by cases e <;> first | exact h2 _ _ h | exact h))
/-- A block of one's own as a row. -/
theorem St.blkRow {e g n : Nat} {cs : List Value} (st : St Z w0 w (Blk g e cs :: L)) (hl : cs.length = n) (h2 : n ≤ maxLen) : St Z w0 w (Row e 1 (.slice (some ⟨g, 0, none⟩) n n) n cs :: L) :=
  st.shutRow (by simpa using hl) (Nat.le_refl _) h2 (by rw [Nat.mul_one, ← hl]; exact List.take_length)
end
end Go.Eng
namespace Go.Proofs
open Go.Shelf
def Tryz.lays106_ren : Go.Shelf.Ren := ⟨fun | 106 => 32 | 213 => 57 | 265 => 82 | n => n, fun | 9 => 9 | 3 => 3 | n => n, fun | n => n⟩
theorem Tryz.lays106 : Go.Proofs.Lays.n106 Tryz.prog Tryz.lays106_ren := {
  mixed := by kernel_rfl
  f106 := Tryz.func32.trans (congrArg some (by kernel_rfl))
  f213 := Tryz.func57.trans (congrArg some (by kernel_rfl))
  f265 := Tryz.func82.trans (congrArg some (by kernel_rfl))
  t3 := Tryz.underlying3
  a3 := Tryz.isAgg3
  z3 := Tryz.sizeOf3
  v3 := Tryz.zeroValue3
  t9 := Tryz.underlying9
  a9 := Tryz.isAgg9
  z9 := Tryz.sizeOf9
  v9 := Tryz.zeroValue9 }
def Tryz.sortf55_ren : Go.Shelf.Ren := ⟨fun | 6 => 55 | 15 => 81 | 14 => 80 | 28 => 101 | 29 => 102 | 20 => 93 | 21 => 94 | 22 => 95 | 23 => 96 | 24 => 97 | 25 => 98 | 26 => 99 | 27 => 100 | 46 => 120 | 47 => 121 | 48 => 122 | 49 => 123 | 50 => 124 | 57 => 133 | n => n, fun | 22 => 37 | 24 => 9 | 25 => 92 | 3 => 3 | 39 => 151 | 0 => 0 | 53 => 172 | 55 => 174 | 4 => 4 | 46 => 166 | 45 => 165 | 50 => 112 | 5 => 5 | 9 => 9 | 66 => 188 | 70 => 192 | 76 => 200 | 77 => 201 | n => n, fun | n => n⟩
theorem Tryz.sortf55 : Go.Proofs.SlLaysF.n6 Tryz.prog Tryz.sortf55_ren := {
  mixed := by kernel_rfl
  f6 := ⟨Tryz.f55.name, by decide, Tryz.func55.trans (congrArg some (by kernel_rfl))⟩
  f14 := ⟨Tryz.f80.name, by decide, Tryz.func80.trans (congrArg some (by kernel_rfl))⟩
  f15 := Tryz.func81.trans (congrArg some (by kernel_rfl))
  f20 := ⟨Tryz.f93.name, by decide, Tryz.func93.trans (congrArg some (by kernel_rfl))⟩
  f21 := ⟨Tryz.f94.name, by decide, Tryz.func94.trans (congrArg some (by kernel_rfl))⟩
  f22 := ⟨Tryz.f95.name, by decide, Tryz.func95.trans (congrArg some (by kernel_rfl))⟩
  f23 := ⟨Tryz.f96.name, by decide, Tryz.func96.trans (congrArg some (by kernel_rfl))⟩
  f24 := ⟨Tryz.f97.name, by decide, Tryz.func97.trans (congrArg some (by kernel_rfl))⟩
  f25 := ⟨Tryz.f98.name, by decide, Tryz.func98.trans (congrArg some (by kernel_rfl))⟩
  f26 := ⟨Tryz.f99.name, by decide, Tryz.func99.trans (congrArg some (by kernel_rfl))⟩
  f27 := ⟨Tryz.f100.name, by decide, Tryz.func100.trans (congrArg some (by kernel_rfl))⟩
  f28 := Tryz.func101.trans (congrArg some (by kernel_rfl))
  f29 := Tryz.func102.trans (congrArg some (by kernel_rfl))
  f46 := ⟨Tryz.f120.name, by decide, Tryz.func120.trans (congrArg some (by kernel_rfl))⟩
  f47 := Tryz.func121.trans (congrArg some (by kernel_rfl))
  f48 := Tryz.func122.trans (congrArg some (by kernel_rfl))
  f49 := ⟨Tryz.f123.name, by decide, Tryz.func123.trans (congrArg some (by kernel_rfl))⟩
  f50 := ⟨Tryz.f124.name, by decide, Tryz.func124.trans (congrArg some (by kernel_rfl))⟩
  f57 := ⟨Tryz.f133.name, by decide, Tryz.func133.trans (congrArg some (by kernel_rfl))⟩
  t0 := Tryz.underlying0
  a0 := Tryz.isAgg0
  z0 := Tryz.sizeOf0
  v0 := Tryz.zeroValue0
  t3 := Tryz.underlying3
  a3 := Tryz.isAgg3
  z3 := Tryz.sizeOf3
  v3 := Tryz.zeroValue3
  t4 := Tryz.underlying4
  a4 := Tryz.isAgg4
  z4 := Tryz.sizeOf4
  v4 := Tryz.zeroValue4
  t5 := Tryz.underlying5
  a5 := Tryz.isAgg5
  z5 := Tryz.sizeOf5
  v5 := Tryz.zeroValue5
  t9 := Tryz.underlying9
  a9 := Tryz.isAgg9
  z9 := Tryz.sizeOf9
  v9 := Tryz.zeroValue9
  t22 := Tryz.underlying37
  a22 := Tryz.isAgg37
  z22 := Tryz.sizeOf37
  v22 := Tryz.zeroValue37
  a24 := Tryz.isAgg9
  z24 := Tryz.sizeOf9
  t25 := Tryz.underlying92
  a25 := Tryz.isAgg92
  z25 := Tryz.sizeOf92
  v25 := Tryz.zeroValue92
  t39 := Tryz.underlying151
  a39 := Tryz.isAgg151
  z39 := Tryz.sizeOf151
  v39 := Tryz.zeroValue151
  t45 := Tryz.underlying165
  a45 := Tryz.isAgg165
  z45 := Tryz.sizeOf165
  v45 := Tryz.zeroValue165
  t46 := Tryz.underlying166
  a46 := Tryz.isAgg166
  z46 := Tryz.sizeOf166
  v46 := Tryz.zeroValue166
  t50 := Tryz.underlying112
  a50 := Tryz.isAgg112
  z50 := Tryz.sizeOf112
  v50 := Tryz.zeroValue112
  t53 := Tryz.underlying172
  a53 := Tryz.isAgg172
  z53 := Tryz.sizeOf172
  v53 := Tryz.zeroValue172
  t55 := Tryz.underlying174
  a55 := Tryz.isAgg174
  z55 := Tryz.sizeOf174
  v55 := Tryz.zeroValue174
  t66 := Tryz.underlying188
  a66 := Tryz.isAgg188
  z66 := Tryz.sizeOf188
  v66 := Tryz.zeroValue188
  t70 := Tryz.underlying192
  a70 := Tryz.isAgg192
  z70 := Tryz.sizeOf192
  v70 := Tryz.zeroValue192
  t76 := Tryz.underlying200
  a76 := Tryz.isAgg200
  z76 := Tryz.sizeOf200
  v76 := Tryz.zeroValue200
  t77 := Tryz.underlying201
  a77 := Tryz.isAgg201
  z77 := Tryz.sizeOf201
  v77 := Tryz.zeroValue201 }
def Tryz.collect54_ren : Go.Shelf.Ren := ⟨fun | 8 => 54 | 11 => 79 | n => n, fun | 26 => 9 | 28 => 87 | 24 => 37 | 0 => 0 | 33 => 118 | 4 => 4 | n => n, fun | n => n⟩
theorem Tryz.collect54 : Go.Proofs.SlLaysZ.n8 Tryz.prog Tryz.collect54_ren := {
  mixed := by kernel_rfl
  f8 := ⟨Tryz.f54.name, by decide, Tryz.func54.trans (congrArg some (by kernel_rfl))⟩
  f11 := ⟨Tryz.f79.name, by decide, Tryz.func79.trans (congrArg some (by kernel_rfl))⟩
  t0 := Tryz.underlying0
  a0 := Tryz.isAgg0
  z0 := Tryz.sizeOf0
  v0 := Tryz.zeroValue0
  t24 := Tryz.underlying37
  a24 := Tryz.isAgg37
  z24 := Tryz.sizeOf37
  v24 := Tryz.zeroValue37
  t26 := Tryz.underlying9
  a26 := Tryz.isAgg9
  z26 := Tryz.sizeOf9
  v26 := Tryz.zeroValue9
  t28 := Tryz.underlying87
  a28 := Tryz.isAgg87
  z28 := Tryz.sizeOf87
  v28 := Tryz.zeroValue87
  i26 := by kernel_rfl }
end Go.Proofs
