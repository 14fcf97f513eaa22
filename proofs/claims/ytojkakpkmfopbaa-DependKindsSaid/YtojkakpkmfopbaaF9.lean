/- What a check has found. -/
import Derived.Test.YtojkakpkmfopbaaF8
set_option linter.unusedVariables false
set_option maxRecDepth 20000
namespace Go.Ped
open Go Go.Eng Go.RowKit Go.Proofs

theorem tf83_1 : fieldB Try.prog 83 1 = some 1 := by kernel_rfl
theorem cal33 : CallOk Try.prog 33 := ⟨⟨Try.f33, Try.func33, rfl, by decide⟩⟩
theorem tf83_0 : fieldB Try.prog 83 0 = some 0 := by kernel_rfl
abbrev FS (fb mb : Nat) (lv : Value) (l : List ByteArray) (L : List Res) : List Res := Blk fb 83 [lv, (.map (some mb))] :: Row 9 1 lv l.length (l.map Value.string) :: Mp Value.string (Value.int .i64) mb (fm l) :: L
def addNew (l : List ByteArray) (v : ByteArray) : List ByteArray := if v ∈ l then l else l ++ [v]
def addNews (l xs : List ByteArray) : List ByteArray := xs.foldl addNew l
def subB (xs l : List ByteArray) : Bool := xs.all fun x => decide (x ∈ l)
theorem addNews_in {l xs : List ByteArray} {i : Nat} {x : ByteArray} (hx : xs[i]? = some x) (h : x ∈ addNews l (xs.take i)) : addNews l (xs.take (i + 1)) = addNews l (xs.take i) := by
  rw [List.take_add_one, hx, addNews, List.foldl_append]
  exact if_pos h
theorem addNews_new {l xs : List ByteArray} {i : Nat} {x : ByteArray} (hx : xs[i]? = some x) (h : ¬ x ∈ addNews l (xs.take i)) : addNews l (xs.take (i + 1)) = addNews l (xs.take i) ++ [x] := by
  rw [List.take_add_one, hx, addNews, List.foldl_append]
  exact if_neg h
theorem addNews_len (l xs : List ByteArray) : (addNews l xs).length ≤ l.length + xs.length := by
  unfold addNews
  induction xs generalizing l with
  | nil => simp
  | cons x xs ih =>
    have h := ih (addNew l x)
    have h2 : (addNew l x).length ≤ l.length + 1 := by unfold addNew; split <;> simp
    simp only [List.foldl_cons, List.length_cons]; omega
theorem has_spec {Z : Nat → Prop} {w0 w : World} {L : List Res} {fb mb : Nat} {lv : Value} {l : List ByteArray} (st : St Z w0 w (FS fb mb lv l L)) (v : ByteArray) : Calls Try.prog 33 #[(pt fb 0), (.string v)] w (Ret fun r w' => r = .bool (decide (v ∈ l)) ∧ St Z w0 w' (FS fb mb lv l L)) := by
 have olv := st.rowOne (i := 1) rfl
 have clv := st.rowCel (i := 1) rfl
 refine calls_of_WC (m := 12) (rs := [.tmp 4]) Try.func33 rfl rfl rfl rfl ?_
 refine Wsr ?_
 refine W1 (OpT.assign (.bool false) rfl ?_)
 refine Wns ?_
 refine W1 (OpT.move (pt fb 0) rfl ?_)
 refine W1 (OpT.nilc ⟨fb, 0, none⟩ rfl ?_)
 refine W1 (OpT.field 1 ⟨fb, 0, none⟩ ⟨fb, 1, none⟩ tf83_1 rfl rfl ?_)
 refine W1 (OpT.loadS ⟨fb, 1, none⟩ (.map (some mb)) ta81 rfl (st.cellB (i := 0) rfl rfl) ?_)
 refine W1 (OpT.move (.string v) rfl ?_)
 refine W1 (OpT.lookupI st 2 rfl ko9 tu81 tz3 (v) rfl rfl ?_)
 refine W1 (OpT.igt .i64 (((mget (fm l) v).getD 0)) (0) rfl rfl ?_)
 refine W1 (OpT.assign (.bool (decide (0 < ((mget (fm l) v).getD 0)))) rfl ?_)
 refine Wnt ?_
 refine WC.ret <| retQ.one (.bool (decide (0 < ((mget (fm l) v).getD 0)))) rfl ?_
 exact ⟨_, rfl, congrArg Value.bool (decide_eq_decide.2 (fm_pos l v)), st⟩

theorem add_spec {Z : Nat → Prop} {w0 w : World} {L : List Res} {fb mb : Nat} {lv : Value} {l : List ByteArray} (st : St Z w0 w (FS fb mb lv l L)) (v : Value) (xs : List ByteArray) (hv : rStr.sl Z w0 v xs) (hb : l.length + xs.length < 1073741824) : Calls Try.prog 27 #[(pt fb 0), v] w (Ret fun r w' => r = .tuple #[] ∧ ∃ lv', St Z w0 w' (FS fb mb lv' (addNews l xs) L)) := by
 have olv := st.rowOne (i := 1) rfl
 have clv := st.rowCel (i := 1) rfl
 refine calls_of_WC (m := 37) (rs := []) Try.func27 rfl rfl rfl rfl ?_
 refine Wsr ?_
 refine W1 (OpT.move v rfl ?_)
 refine W1 (OpT.lenR rfl tu68 hv rfl ?_)
 refine W1 (OpT.move (ii 0) rfl ?_)
 refine Wnt ?_
 refine WC.block ?_
 refine WC.loop (fun m ρ wz => ∃ (i : Nat), ∃ (lv2 : Value), m = xs.length - i ∧ i ≤ xs.length ∧ ρ 8 = (ni i) ∧ ρ 0 = (pt fb 0) ∧ ρ 6 = v ∧ ρ 7 = (ni (xs.length)) ∧ St Z w0 wz (Blk fb 83 [lv2, (.map (some mb))] :: Row 9 1 lv2 (addNews l (xs.take i)).length ((addNews l (xs.take i)).map Value.string) :: Mp Value.string (Value.int .i64) mb (fm (addNews l (xs.take i))) :: L)) _ ⟨0, lv, rfl, by omega, rfl, rfl, rfl, rfl, st⟩ ?_
 rintro m1 ρ2 w3 ⟨i, lv2, hm10, hp5, hs6, hs7, hs8, hs9, st4⟩
 have olv2 := st4.rowOne (i := 1) rfl
 have clv2 := st4.rowCel (i := 1) rfl
 have hal := addNews_len l (xs.take i)
 have htk : (xs.take i).length ≤ xs.length := by rw [List.length_take]; omega
 refine Wsr ?_
 refine W1 (OpT.ilt .i64 (((i : Nat) : Int)) (((xs.length : Nat) : Int)) hs6 hs9 ?_)
 refine Wnt ?_
 refine WC.seq ?_
 refine WC.condP (((i : Nat) : Int) < ((xs.length : Nat) : Int)) rfl (fun h11 => ?_) (fun h11 => ?_)
 ·refine WC.skip ?_
  refine thenQ_n ?_
  refine WC.seq ?_
  refine WC.block ?_
  refine Wsr ?_
  obtain ⟨x12, hx12⟩ : ∃ x, (xs)[i]? = some x := ⟨_, List.getElem?_eq_getElem (by omega)⟩
  refine W1 (OpT.idxX tu68 ts9 hv hs8 .i64 (i) hs6 hx12 (fun ad13 cs14 hr15 hR16 => ?_))
  have hR16c := hR16
  obtain rfl := hR16
  refine W1 (OpT.loadS ad13 (.string x12) ta9 rfl (hr15.cell st4 (j := 0) rfl) ?_)
  refine W1 (OpT.assign (.string x12) rfl ?_)
  refine Wns ?_
  refine W1 (OpT.move (pt fb 0) hs7 ?_)
  refine W1 (OpT.move (.string x12) rfl ?_)
  refine W1 (OpT.callS cal33 [] [] [(pt fb 0), (.string x12)] rfl (ca2 rfl rfl) (has_spec st4 x12) ?_)
  rintro v17 w18 ⟨rfl, st19⟩
  refine W1 (OpT.notP (x12 ∈ (addNews l (xs.take i))) rfl ?_)
  refine Wnt ?_
  refine WC.condP (¬ (x12 ∈ (addNews l (xs.take i)))) rfl (fun h20 => ?_) (fun h20 => ?_)
  ·refine WC.seq ?_
   refine WC.region ?_
   refine W1 (OpT.move (pt fb 0) hs7 ?_)
   refine W1 (OpT.move (pt fb 0) hs7 ?_)
   refine W1 (OpT.nilc ⟨fb, 0, none⟩ rfl ?_)
   refine W1 (OpT.field 0 ⟨fb, 0, none⟩ ⟨fb, 0, none⟩ tf83_0 rfl rfl ?_)
   refine W1 (OpT.loadS ⟨fb, 0, none⟩ lv2 ta68 rfl (st19.cellB (i := 0) rfl rfl) ?_)
   refine W1 (OpT.move (.string x12) rfl ?_)
   refine W1 (OpT.buildSlice st19 [(0, (.string x12))] [(.string x12)] tu68 ts9 tz9 (mp1 rfl) (by kernel_rfl) (by decide) (fun b21 w22 st23 => ?_))
   have st24 : St Z w0 w22 (Blk b21 9 [(.string x12)] :: Row 9 1 lv2 (addNews l (xs.take i)).length ((addNews l (xs.take i)).map Value.string) :: Blk fb 83 [lv2, (.map (some mb))] :: Mp Value.string (Value.int .i64) mb (fm (addNews l (xs.take i))) :: L) := St.selT [Blk b21 9 [(.string x12)], Blk fb 83 [lv2, (.map (some mb))], Row 9 1 lv2 (addNews l (xs.take i)).length ((addNews l (xs.take i)).map Value.string), Mp Value.string (Value.int .i64) mb (fm (addNews l (xs.take i)))] [0, 2, 1, 3] rfl (by decide) st23
   refine W1 (OpT.append st24 1 tu68 ts9 tz9 rfl tb9 (by decide) rfl rfl rfl rfl (by omega) (by omega) (fun v25 w26 st27 hn28 => ?_))
   have o29 := st27.rowOne (i := 0) rfl
   have c30 := st27.rowCel (i := 0) rfl
   refine W1 (OpT.nilc ⟨fb, 0, none⟩ rfl ?_)
   refine W1 (OpT.field 0 ⟨fb, 0, none⟩ ⟨fb, 0, none⟩ tf83_0 rfl rfl ?_)
   refine WL.stepN (OpT.storeS st27 1 v25 rfl ts68 rfl rfl o29 c30 rfl (fun w31 st32 => ?_))
   refine Wnt ?_
   refine WC.draw 10 (fun jj vv => match jj with | 0 => vv = (pt fb 0) | 1 => vv = (pt fb 0) | 2 => vv = (pt fb 1) | 3 => vv = (.map (some mb)) | 4 => vv = (.string x12) | 5 => vv = (pt fb 0) | 6 => vv = (pt fb 0) | 7 => vv = (pt fb 0) | 8 => vv = v25 | 9 => vv = (.int .i64 (((((addNews l (xs.take i)).length + 1) : Nat) : Int))) | _ => True) (fun _ _ => []) st32 fmix (by kernel_rfl) ((obS (obS (obS (obS (obS (obS (obS (obS (obS (obS ob0 ?_) ?_) ?_) ?_) ?_) ?_) ?_) ?_) ?_) ?_)) ?_
   ·intro vals ρ w34 X hd h0 st33
    have e35 : ρ 0 = (pt fb 0) := (h0 0 rfl).trans hs7
    refine W1 (OpT.move (pt fb 0) e35 ?_)
    refine WL.nil ?_
    exact oneQ.mk ⟨rfl, st33⟩
   ·intro vals ρ w37 X hd h0 st36
    have e38 : ρ 26 = (pt fb 0) := ((hd 0 rfl).2 26 rfl).trans (hd 0 rfl).1
    refine W1 (OpT.nilc ⟨fb, 0, none⟩ e38 ?_)
    refine WL.nil ?_
    exact oneQ.mk ⟨rfl, st36⟩
   ·intro vals ρ w40 X hd h0 st39
    have e41 : ρ 27 = (pt fb 0) := ((hd 1 rfl).2 27 rfl).trans (hd 1 rfl).1
    refine W1 (OpT.field 1 ⟨fb, 0, none⟩ ⟨fb, 1, none⟩ tf83_1 e41 rfl ?_)
    refine WL.nil ?_
    exact oneQ.mk ⟨rfl, st39⟩
   ·intro vals ρ w43 X hd h0 st42
    have e44 : ρ 28 = (pt fb 1) := ((hd 2 rfl).2 28 rfl).trans (hd 2 rfl).1
    refine W1 (OpT.loadS ⟨fb, 1, none⟩ (.map (some mb)) ta81 e44 (st42.cellB (i := 1) rfl rfl) ?_)
    refine WL.nil ?_
    exact oneQ.mk ⟨rfl, st42⟩
   ·intro vals ρ w46 X hd h0 st45
    have e47 : ρ 5 = (.string x12) := (h0 5 rfl).trans rfl
    refine W1 (OpT.move (.string x12) e47 ?_)
    refine WL.nil ?_
    exact oneQ.mk ⟨rfl, st45⟩
   ·intro vals ρ w49 X hd h0 st48
    have e50 : ρ 0 = (pt fb 0) := (h0 0 rfl).trans hs7
    refine W1 (OpT.move (pt fb 0) e50 ?_)
    refine WL.nil ?_
    exact oneQ.mk ⟨rfl, st48⟩
   ·intro vals ρ w52 X hd h0 st51
    have e53 : ρ 31 = (pt fb 0) := ((hd 5 rfl).2 31 rfl).trans (hd 5 rfl).1
    refine W1 (OpT.nilc ⟨fb, 0, none⟩ e53 ?_)
    refine WL.nil ?_
    exact oneQ.mk ⟨rfl, st51⟩
   ·intro vals ρ w55 X hd h0 st54
    have e56 : ρ 32 = (pt fb 0) := ((hd 6 rfl).2 32 rfl).trans (hd 6 rfl).1
    refine W1 (OpT.field 0 ⟨fb, 0, none⟩ ⟨fb, 0, none⟩ tf83_0 e56 rfl ?_)
    refine WL.nil ?_
    exact oneQ.mk ⟨rfl, st54⟩
   ·intro vals ρ w58 X hd h0 st57
    have e59 : ρ 33 = (pt fb 0) := ((hd 7 rfl).2 33 rfl).trans (hd 7 rfl).1
    refine W1 (OpT.loadS ⟨fb, 0, none⟩ v25 ta68 e59 (st57.cellB (i := 1) rfl rfl) ?_)
    refine WL.nil ?_
    exact oneQ.mk ⟨rfl, st57⟩
   ·intro vals ρ w61 X hd h0 st60
    have e62 : ρ 34 = v25 := ((hd 8 rfl).2 34 rfl).trans (hd 8 rfl).1
    refine W1 (OpT.lenRow st60 0 rfl rfl tu68 e62 ?_)
    refine WL.nil ?_
    exact oneQ.mk ⟨rfl, st60⟩
   intro vals ρ65 w64 hv h0 st63
   replace st63 : St Z w0 w64 (Row 9 1 v25 ((addNews l (xs.take i)).length + 1) (((addNews l (xs.take i)).map Value.string) ++ [(.string x12)]) :: Blk fb 83 [v25, (.map (some mb))] :: Mp Value.string (Value.int .i64) mb (fm (addNews l (xs.take i))) :: L) := st63
   have e66 : ρ65 0 = (pt fb 0) := (h0 0 rfl).trans hs7
   have e67 : ρ65 6 = v := (h0 6 rfl).trans hs8
   have e68 : ρ65 7 = (ni (xs.length)) := (h0 7 rfl).trans hs9
   have e69 : ρ65 8 = (ni i) := (h0 8 rfl).trans hs6
   have e70 : ρ65 29 = (.map (some mb)) := ((hv 3 rfl).2 29 rfl).trans (hv 3 rfl).1
   have e71 : ρ65 30 = (.string x12) := ((hv 4 rfl).2 30 rfl).trans (hv 4 rfl).1
   have e72 : ρ65 35 = (.int .i64 (((((addNews l (xs.take i)).length + 1) : Nat) : Int))) := ((hv 9 rfl).2 35 rfl).trans (hv 9 rfl).1
   clear hv h0
   refine WL.stepN (OpT.mapSet st63 2 rfl ko9 tu81 (x12) (((((addNews l (xs.take i)).length + 1) : Nat) : Int)) e70 e71 e72 (fun w73 st74 => ?_))
   refine WL.nil ?_
   refine blkQ_n ?_
   refine thenQ_n ?_
   refine WC.region ?_
   refine W1 (OpT.iadd .i64 (((i : Nat) : Int)) (1) (((i + 1 : Nat) : Int)) e69 rfl (wadd (a := i) (b := 1) (by omega)) ?_)
   refine W1 (OpT.move (ni (i + 1)) rfl ?_)
   refine WL.nil ?_
   have st75 : St Z w0 w73 (FS fb mb v25 (addNews l (xs.take (i + 1))) L) := by
     unfold FS
     rw [addNews_new hx12 h20, ← fm_set _ _ h20]
     simp only [List.map_append, List.map_cons, List.map_nil, List.length_append, List.length_cons, List.length_nil]
     exact (St.selT [Row 9 1 v25 ((addNews l (xs.take i)).length + 1) (((addNews l (xs.take i)).map Value.string) ++ [(.string x12)]), Blk fb 83 [v25, (.map (some mb))], Mp Value.string (Value.int .i64) mb (mset (fm (addNews l (xs.take i))) x12 ((((addNews l (xs.take i)).length + 1) : Nat) : Int))] [1, 0, 2] rfl (by decide) st74)
   exact loopQ_n _ (by omega) ⟨i + 1, v25, rfl, by omega, rfl, e66, e67, e68, st75⟩
  refine WC.skip ?_
  refine blkQ_n ?_
  refine thenQ_n ?_
  refine WC.region ?_
  refine W1 (OpT.iadd .i64 (((i : Nat) : Int)) (1) (((i + 1 : Nat) : Int)) hs6 rfl (wadd (a := i) (b := 1) (by omega)) ?_)
  refine W1 (OpT.move (ni (i + 1)) rfl ?_)
  refine WL.nil ?_
  have st76 : St Z w0 w18 (FS fb mb lv2 (addNews l (xs.take (i + 1))) L) := by rw [addNews_in hx12 (Classical.not_not.1 h20)]; exact st19
  exact loopQ_n _ (by omega) ⟨i + 1, lv2, rfl, by omega, rfl, hs7, hs8, hs9, st76⟩
 refine WC.exit ?_
 refine thenQ_x ?_
 refine loopQ_x ?_
 refine blkQ_hit ?_
 refine retQ.none (.inl rfl) ?_
 exact ⟨_, rfl, rfl, lv2, by rw [show xs = xs.take i from (List.take_of_length_le (by omega)).symm]; exact st4⟩

end Go.Ped
