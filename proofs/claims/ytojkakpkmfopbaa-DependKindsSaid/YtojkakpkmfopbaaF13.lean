/- A round over equations. -/
import Derived.Test.YtojkakpkmfopbaaF12
set_option linter.unusedVariables false
set_option maxRecDepth 20000
namespace Go.Ped
open Go Go.Eng Go.RowKit Go.Proofs

theorem tf86_0 : fieldB Try.prog 86 0 = some 0 := by kernel_rfl
theorem ta84 : aggB Try.prog 84 = some false := by kernel_rfl
theorem tu84 : Try.prog.underlying 84 = some (.slice 92) := by kernel_rfl
theorem ts92 : sizeB Try.prog 92 = some 4 := by kernel_rfl
theorem ta92 : aggB Try.prog 92 = some true := by kernel_rfl
theorem tz92 : zeroB Try.prog 92 = some (.agg #[(.string (⟨#[]⟩ : ByteArray)), (.string (⟨#[]⟩ : ByteArray)), (.slice none 0 0), (.slice none 0 0)]) := by kernel_rfl
theorem cal32 : CallOk Try.prog 32 := ⟨⟨Try.f32, Try.func32, rfl, by decide⟩⟩
theorem tb92 : (Try.prog.info? 92).map (·.bytes) = some 80 := by kernel_rfl
theorem ts84 : sizeB Try.prog 84 = some 1 := by kernel_rfl
def rnd (es : List Eqn × List ByteArray) (q : Eqn) : List Eqn × List ByteArray := if takeB q es.2 then (es.1, takeL q es.2) else (es.1 ++ [q], takeL q es.2)
def rndF (eqs : List Eqn) (l : List ByteArray) : List Eqn × List ByteArray := eqs.foldl rnd ([], l)
theorem rnd_step {eqs : List Eqn} {i : Nat} {q : Eqn} (hx : eqs[i]? = some q) (l : List ByteArray) : rndF (eqs.take (i + 1)) l = rnd (rndF (eqs.take i) l) q := by
  rw [List.take_add_one, hx, rndF, List.foldl_append]; rfl
theorem takeL_len (q : Eqn) (l : List ByteArray) : (takeL q l).length ≤ l.length + 1 := by
  unfold takeL; split
  · exact addNews_len l [q.l]
  · split
    · exact addNews_len l [q.r]
    · omega
theorem rndF_len (eqs : List Eqn) (l : List ByteArray) : (rndF eqs l).2.length ≤ l.length + eqs.length ∧ (rndF eqs l).1.length ≤ eqs.length := by
  have : ∀ (es : List Eqn × List ByteArray), (eqs.foldl rnd es).2.length ≤ es.2.length + eqs.length ∧ (eqs.foldl rnd es).1.length ≤ es.1.length + eqs.length := by
    induction eqs with
    | nil => intro es; simp
    | cons q qs ih =>
      intro es
      have h := ih (rnd es q)
      have h2 := takeL_len q es.2
      have h3 : (rnd es q).2.length ≤ es.2.length + 1 ∧ (rnd es q).1.length ≤ es.1.length + 1 := by unfold rnd; split <;> simp <;> omega
      simp only [List.foldl_cons, List.length_cons]; omega
  simpa [rndF] using this ([], l)
theorem round_spec {Z : Nat → Prop} {w0 w : World} {L : List Res} {rb fb mb : Nat} {rv lv : Value} {eqs : List Eqn} {cs : List Value} {l : List ByteArray} (st : St Z w0 w (Blk rb 86 [rv] :: Row 92 4 rv eqs.length cs :: FS fb mb lv l L)) (HE : RowsOf (rEqn.R Z w0) 4 cs eqs) (hl : l.length + eqs.length + 1 < 1073741824) : Calls Try.prog 31 #[(pt rb 0), (.func (.func 32) #[(pt fb 0)] #[])] w (Ret fun r w' => ∃ Z' w1 rv' cs' lv', Ext Z w0 Z' w1 ∧ r = .bool (decide (((rndF eqs l).1.length : Int) < (eqs.length : Int))) ∧ St Z' w1 w' (Blk rb 86 [rv'] :: Row 92 4 rv' (rndF eqs l).1.length cs' :: FS fb mb lv' (rndF eqs l).2 L) ∧ RowsOf (rEqn.R Z' w1) 4 cs' (rndF eqs l).1) := by
 obtain ⟨Z2, hx, hsl, st⟩ := St.freezeRow (r := rEqn) (St.selT [Blk rb 86 [rv], Row 92 4 rv eqs.length cs] [1, 0] rfl (by decide) st) (by omega) HE.2
 replace st := st.rowNil 92 4
 have olv := st.rowOne (i := 3) rfl
 have clv := st.rowCel (i := 3) rfl
 have hsl_le := Rl.sl_le hsl
 refine calls_of_WC (m := 40) (rs := [.tmp 4]) Try.func31 rfl rfl rfl rfl ?_
 refine Wsr ?_
 refine W1 (OpT.assign (.bool false) rfl ?_)
 refine Wns ?_
 refine W1 (OpT.move (pt rb 0) rfl ?_)
 refine W1 (OpT.nilc ⟨rb, 0, none⟩ rfl ?_)
 refine W1 (OpT.field 0 ⟨rb, 0, none⟩ ⟨rb, 0, none⟩ tf86_0 rfl rfl ?_)
 refine W1 (OpT.loadS ⟨rb, 0, none⟩ rv ta84 rfl (st.cellB (i := 1) rfl rfl) ?_)
 refine W1 (OpT.lenR rfl tu84 hsl rfl ?_)
 refine W1 (OpT.assign (ni (eqs.length)) rfl ?_)
 refine Wns ?_
 refine W1 (OpT.assign vn rfl ?_)
 refine Wnt ?_
 refine WC.seq ?_
 refine Wsr ?_
 refine W1 (OpT.move (pt rb 0) rfl ?_)
 refine W1 (OpT.nilc ⟨rb, 0, none⟩ rfl ?_)
 refine W1 (OpT.field 0 ⟨rb, 0, none⟩ ⟨rb, 0, none⟩ tf86_0 rfl rfl ?_)
 refine W1 (OpT.loadS ⟨rb, 0, none⟩ rv ta84 rfl (st.cellB (i := 1) rfl rfl) ?_)
 refine W1 (OpT.lenR rfl tu84 hsl rfl ?_)
 refine W1 (OpT.move (ii 0) rfl ?_)
 refine Wnt ?_
 refine WC.block ?_
 have st1 : St Z2 w w (Blk rb 86 [rv] :: Row 92 4 vn 0 ([] : List Value) :: Blk fb 83 [lv, (.map (some mb))] :: Row 9 1 lv l.length (l.map Value.string) :: Mp Value.string (Value.int .i64) mb (fm l) :: L) := St.selT [Row 92 4 vn 0 ([] : List Value), Blk rb 86 [rv], Blk fb 83 [lv, (.map (some mb))], Row 9 1 lv l.length (l.map Value.string), Mp Value.string (Value.int .i64) mb (fm l)] [1, 0, 2, 3, 4] rfl (by decide) st
 refine WC.loop (fun m ρ wz => ∃ (i : Nat), ∃ (lv2 : Value), ∃ (lf : Value), ∃ (cs2 : List Value), m = eqs.length - i ∧ i ≤ eqs.length ∧ RowsOf (rEqn.R Z2 w) 4 cs2 (rndF (eqs.take i) l).1 ∧ ρ 6 = lf ∧ ρ 19 = (ni i) ∧ ρ 0 = (pt rb 0) ∧ ρ 1 = (.func (.func 32) #[(pt fb 0)] #[]) ∧ ρ 5 = (ni (eqs.length)) ∧ ρ 17 = rv ∧ ρ 18 = (ni (eqs.length)) ∧ St Z2 w wz (Blk rb 86 [rv] :: Row 92 4 lf (rndF (eqs.take i) l).1.length cs2 :: Blk fb 83 [lv2, (.map (some mb))] :: Row 9 1 lv2 ((rndF (eqs.take i) l).2).length (((rndF (eqs.take i) l).2).map Value.string) :: Mp Value.string (Value.int .i64) mb (fm ((rndF (eqs.take i) l).2)) :: L)) _ ⟨0, lv, vn, [], rfl, by omega, RowsOf.nil, rfl, rfl, rfl, rfl, rfl, rfl, rfl, st1⟩ ?_
 rintro m2 ρ3 w4 ⟨i, lv2, lf, cs2, hm14, hp6, HR, hs8, hs7, hs9, hs10, hs11, hs12, hs13, st5⟩
 have olv2 := st5.rowOne (i := 3) rfl
 have clv2 := st5.rowCel (i := 3) rfl
 have olf := st5.rowOne (i := 1) rfl
 have clf := st5.rowCel (i := 1) rfl
 have htk : (eqs.take i).length ≤ eqs.length := by rw [List.length_take]; omega
 have hal := rndF_len (eqs.take i) l
 refine Wsr ?_
 refine W1 (OpT.ilt .i64 (((i : Nat) : Int)) (((eqs.length : Nat) : Int)) hs7 hs13 ?_)
 refine Wnt ?_
 refine WC.seq ?_
 refine WC.condP (((i : Nat) : Int) < ((eqs.length : Nat) : Int)) rfl (fun h15 => ?_) (fun h15 => ?_)
 ·refine WC.skip ?_
  refine thenQ_n ?_
  refine WC.seq ?_
  refine WC.block ?_
  refine Wsr ?_
  obtain ⟨x16, hx16⟩ : ∃ x, (eqs)[i]? = some x := ⟨_, List.getElem?_eq_getElem (by omega)⟩
  refine W1 (OpT.idxX tu84 ts92 hsl hs12 .i64 (i) hs7 hx16 (fun ad17 cs18 hr19 hR20 => ?_))
  have hR20c := hR20
  obtain ⟨ev21, ew22, rfl, he23, hf24⟩ := hR20
  refine W1 (OpT.loadA ad17 4 [(.string x16.l), (.string x16.r), ev21, ew22] ta92 ts92 rfl ((hr19.at st5).part 0 4) rfl ?_)
  refine W1 (OpT.alloc st5 (.agg #[ve, ve, vn, vn]) [ve, ve, vn, vn] tz92 rfl (fun b25 w26 st27 => ?_))
  refine WL.stepN (OpT.storeA st27 0 4 [(.string x16.l), (.string x16.r), ev21, ew22] rfl ts92 rfl rfl (aC rfl (aC rfl (aC (Rl.sl_one he23) (aC (Rl.sl_one hf24) aN)))) rfl rfl (fun w28 st29 => ?_))
  refine Wns ?_
  refine W1 (OpT.move (.func (.func 32) #[(pt fb 0)] #[]) hs10 ?_)
  refine W1 (OpT.loadA ⟨b25, 0, none⟩ 4 [(.string x16.l), (.string x16.r), ev21, ew22] ta92 ts92 rfl ((st29.rowB (i := 0) rfl).part 0 4) rfl ?_)
  refine W1 (OpT.callS cal32 [(pt fb 0)] [] [(pt fb 0), (.agg #[(.string x16.l), (.string x16.r), ev21, ew22])] rfl (caF (ca1 rfl)) (take_spec (St.selT [Blk b25 92 [(.string x16.l), (.string x16.r), ev21, ew22], Blk rb 86 [rv], Row 92 4 lf (rndF (eqs.take i) l).1.length cs2, Blk fb 83 [lv2, (.map (some mb))], Row 9 1 lv2 ((rndF (eqs.take i) l).2).length (((rndF (eqs.take i) l).2).map Value.string), Mp Value.string (Value.int .i64) mb (fm ((rndF (eqs.take i) l).2))] [3, 4, 5, 0, 1, 2] rfl (by decide) st29) x16 _ _ he23 hf24 (by omega)) ?_)
  rintro v33 w34 ⟨rfl, lv30, st35⟩
  have o31 := st35.rowOne (i := 1) rfl
  have c32 := st35.rowCel (i := 1) rfl
  refine W1 (OpT.not (takeB x16 ((rndF (eqs.take i) l).2)) rfl ?_)
  refine Wnt ?_
  refine WC.cond ((!(takeB x16 ((rndF (eqs.take i) l).2)))) rfl (fun h36 => ?_) (fun h36 => ?_)
  ·refine WC.region ?_
   refine W1 (OpT.move lf hs8 ?_)
   refine W1 (OpT.loadA ⟨b25, 0, none⟩ 4 [(.string x16.l), (.string x16.r), ev21, ew22] ta92 ts92 rfl ((st35.rowB (i := 3) rfl).part 0 4) rfl ?_)
   refine W1 (OpT.buildSlice st35 [(0, (.agg #[(.string x16.l), (.string x16.r), ev21, ew22]))] [(.string x16.l), (.string x16.r), ev21, ew22] tu84 ts92 tz92 (mp1 rfl) (by kernel_rfl) (by decide) (fun b37 w38 st39 => ?_))
   have st40 : St Z2 w w38 (Blk b37 92 [(.string x16.l), (.string x16.r), ev21, ew22] :: Row 92 4 lf (rndF (eqs.take i) l).1.length cs2 :: Blk fb 83 [lv30, (.map (some mb))] :: Row 9 1 lv30 (takeL x16 ((rndF (eqs.take i) l).2)).length ((takeL x16 ((rndF (eqs.take i) l).2)).map Value.string) :: Mp Value.string (Value.int .i64) mb (fm (takeL x16 ((rndF (eqs.take i) l).2))) :: Blk b25 92 [(.string x16.l), (.string x16.r), ev21, ew22] :: Blk rb 86 [rv] :: L) := St.selT [Blk b37 92 [(.string x16.l), (.string x16.r), ev21, ew22], Blk fb 83 [lv30, (.map (some mb))], Row 9 1 lv30 (takeL x16 ((rndF (eqs.take i) l).2)).length ((takeL x16 ((rndF (eqs.take i) l).2)).map Value.string), Mp Value.string (Value.int .i64) mb (fm (takeL x16 ((rndF (eqs.take i) l).2))), Blk b25 92 [(.string x16.l), (.string x16.r), ev21, ew22], Blk rb 86 [rv], Row 92 4 lf (rndF (eqs.take i) l).1.length cs2] [0, 6, 1, 2, 3, 4, 5] rfl (by decide) st39
   refine W1 (OpT.append st40 1 tu84 ts92 tz92 rfl tb92 (by decide) rfl rfl rfl (aC rfl (aC rfl (aC (Rl.sl_one he23) (aC (Rl.sl_one hf24) aN)))) (by omega) (by omega) (fun v41 w42 st43 hn44 => ?_))
   have o45 := st43.rowOne (i := 0) rfl
   have c46 := st43.rowCel (i := 0) rfl
   refine W1 (OpT.assign v41 rfl ?_)
   refine WL.nil ?_
   refine blkQ_n ?_
   refine thenQ_n ?_
   refine WC.region ?_
   refine W1 (OpT.iadd .i64 (((i : Nat) : Int)) (1) (((i + 1 : Nat) : Int)) hs7 rfl (wadd (a := i) (b := 1) (by omega)) ?_)
   refine W1 (OpT.move (ni (i + 1)) rfl ?_)
   refine WL.nil ?_
   have e48 : rndF (eqs.take (i + 1)) l = ((rndF (eqs.take i) l).1 ++ [x16], takeL x16 (rndF (eqs.take i) l).2) := by rw [rnd_step hx16, rnd]; simp_all
   have st47 : St Z2 w w42 (Blk rb 86 [rv] :: Row 92 4 v41 (rndF (eqs.take (i + 1)) l).1.length (cs2 ++ [(.string x16.l), (.string x16.r), ev21, ew22]) :: Blk fb 83 [lv30, (.map (some mb))] :: Row 9 1 lv30 ((rndF (eqs.take (i + 1)) l).2).length (((rndF (eqs.take (i + 1)) l).2).map Value.string) :: Mp Value.string (Value.int .i64) mb (fm ((rndF (eqs.take (i + 1)) l).2)) :: L) := by rw [e48]; simp only [List.length_append, List.length_cons, List.length_nil]; exact (St.selT [Row 92 4 v41 ((rndF (eqs.take i) l).1.length + 1) (cs2 ++ [(.string x16.l), (.string x16.r), ev21, ew22]), Blk fb 83 [lv30, (.map (some mb))], Row 9 1 lv30 (takeL x16 ((rndF (eqs.take i) l).2)).length ((takeL x16 ((rndF (eqs.take i) l).2)).map Value.string), Mp Value.string (Value.int .i64) mb (fm (takeL x16 ((rndF (eqs.take i) l).2))), Blk b25 92 [(.string x16.l), (.string x16.r), ev21, ew22], Blk rb 86 [rv]] [5, 0, 1, 2, 3] rfl (by decide) st43)
   exact loopQ_n _ (by omega) ⟨i + 1, lv30, v41, (cs2 ++ [(.string x16.l), (.string x16.r), ev21, ew22]), rfl, by omega, by rw [e48]; exact HR.snoc rfl ⟨_, _, rfl, he23, hf24⟩, rfl, rfl, hs9, hs10, hs11, hs12, hs13, st47⟩
  refine WC.skip ?_
  refine blkQ_n ?_
  refine thenQ_n ?_
  refine WC.region ?_
  refine W1 (OpT.iadd .i64 (((i : Nat) : Int)) (1) (((i + 1 : Nat) : Int)) hs7 rfl (wadd (a := i) (b := 1) (by omega)) ?_)
  refine W1 (OpT.move (ni (i + 1)) rfl ?_)
  refine WL.nil ?_
  have e50 : rndF (eqs.take (i + 1)) l = ((rndF (eqs.take i) l).1, takeL x16 (rndF (eqs.take i) l).2) := by rw [rnd_step hx16, rnd]; simp_all
  have st49 : St Z2 w w34 (Blk rb 86 [rv] :: Row 92 4 lf (rndF (eqs.take (i + 1)) l).1.length cs2 :: Blk fb 83 [lv30, (.map (some mb))] :: Row 9 1 lv30 ((rndF (eqs.take (i + 1)) l).2).length (((rndF (eqs.take (i + 1)) l).2).map Value.string) :: Mp Value.string (Value.int .i64) mb (fm ((rndF (eqs.take (i + 1)) l).2)) :: L) := by rw [e50];  exact (St.selT [Blk fb 83 [lv30, (.map (some mb))], Row 9 1 lv30 (takeL x16 ((rndF (eqs.take i) l).2)).length ((takeL x16 ((rndF (eqs.take i) l).2)).map Value.string), Mp Value.string (Value.int .i64) mb (fm (takeL x16 ((rndF (eqs.take i) l).2))), Blk b25 92 [(.string x16.l), (.string x16.r), ev21, ew22], Blk rb 86 [rv], Row 92 4 lf (rndF (eqs.take i) l).1.length cs2] [4, 5, 0, 1, 2] rfl (by decide) st35)
  exact loopQ_n _ (by omega) ⟨i + 1, lv30, lf, cs2, rfl, by omega, by rw [e50]; exact HR, hs8, rfl, hs9, hs10, hs11, hs12, hs13, st49⟩
 refine WC.exit ?_
 refine thenQ_x ?_
 refine loopQ_x ?_
 refine blkQ_hit ?_
 refine thenQ_n ?_
 refine Wsr ?_
 refine W1 (OpT.move (pt rb 0) hs9 ?_)
 refine W1 (OpT.move lf hs8 ?_)
 refine W1 (OpT.nilc ⟨rb, 0, none⟩ rfl ?_)
 refine W1 (OpT.field 0 ⟨rb, 0, none⟩ ⟨rb, 0, none⟩ tf86_0 rfl rfl ?_)
 refine WL.stepN (OpT.storeS st5 0 lf rfl ts84 rfl rfl olf clf rfl (fun w51 st52 => ?_))
 refine Wns ?_
 refine W1 (OpT.move lf hs8 ?_)
 refine W1 (OpT.lenRow st52 1 rfl rfl tu84 rfl ?_)
 refine W1 (OpT.move (ni (eqs.length)) hs11 ?_)
 refine W1 (OpT.ilt .i64 ((((rndF (eqs.take i) l).1.length : Nat) : Int)) (((eqs.length : Nat) : Int)) rfl rfl ?_)
 refine W1 (OpT.assign (.bool (decide ((((rndF (eqs.take i) l).1.length : Nat) : Int) < ((eqs.length : Nat) : Int)))) rfl ?_)
 refine Wnt ?_
 refine WC.ret <| retQ.one (.bool (decide ((((rndF (eqs.take i) l).1.length : Nat) : Int) < ((eqs.length : Nat) : Int)))) rfl ?_
 have e : eqs.take i = eqs := List.take_of_length_le (by omega)
 rw [e] at HR st52
 exact ⟨_, rfl, Z2, w, lf, cs2, lv2, hx, by rw [e], st52, HR⟩

end Go.Ped
