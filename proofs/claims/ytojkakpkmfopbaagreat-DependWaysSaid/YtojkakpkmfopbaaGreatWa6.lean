/- Parts F45 of the proof. -/
import Derived.Test.YtojkakpkmfopbaaGreatWa5
set_option linter.unusedVariables false
set_option maxRecDepth 20000
namespace Go.Ped
open Go Go.Eng Go.RowKit Go.Proofs

theorem cal6 : CallOk Tryz.prog 6 := ⟨⟨Tryz.f6, Tryz.func6, rfl, by decide⟩⟩
theorem cal15 : CallOk Tryz.prog 15 := ⟨⟨Tryz.f15, Tryz.func15, rfl, by decide⟩⟩
theorem cal11 : CallOk Tryz.prog 11 := ⟨⟨Tryz.f11, Tryz.func11, rfl, by decide⟩⟩
theorem PO.len {G : ByteArray → List ByteArray} {N : List ByteArray} {o : List (List ByteArray)} (h : PO G N o) : o.length ≤ N.length := by
  have key : ∀ l : List (List ByteArray), (∀ p ∈ l, p ≠ []) → l.length ≤ l.flatten.length := by
    intro l
    induction l with
    | nil => intro _; simp
    | cons p l ih =>
      intro h
      have h1 := ih (fun q hq => h q (by simp [hq]))
      have h2 : 0 < p.length := List.length_pos_iff.2 (h p (by simp))
      rw [List.flatten_cons, List.length_append, List.length_cons]; omega
  have h1 := key o (fun p hp => (h.cls p hp).1)
  have h2 := h.flat_len o.length
  rw [List.take_length] at h2
  omega
theorem way_on {rs : List Rul} {RL : ByteArray → List ByteArray} (hRL : ∀ x, RchL rs x (RL x)) {s : ByteArray} {e : Edg} (he : e ∈ edgesF rs) (h : hasB (RL s) e.frm = true) : hasB (RL s) e.to = true := by
  rw [hasB_iff, (hRL s).mem] at h ⊢
  exact h.trans (Rch.one (mem_suc.2 ⟨e, he, rfl, rfl⟩))
theorem Ways_spec {Z : Nat → Prop} {w0 w : World} {L : List Res} (st : St Z w0 w L) (v : Value) (rs : List Rul) (hv : rRul.sl Z w0 v rs) (hsz : ∀ x ∈ rs, x.pred.size ≤ maxLen ∧ ∀ y ∈ x.body, y.atom.pred.size ≤ maxLen) (s : ByteArray) (hps : s.size ≤ maxLen) : Calls Tryz.prog 4 #[v, (.string s)] w (Ret fun r w' => r = .bool true ∧ St Z w0 w' L) := by
 have hal := Rl.sl_le hv
 refine calls_of_WC (m := 108) (rs := [.tmp 4]) Tryz.func4 rfl rfl rfl rfl ?_
 refine Wsr ?_
 refine W1 (OpT.assign (.bool false) rfl ?_)
 refine Wnt ?_
 refine WC.seq ?_
 refine Wsr ?_
 refine W1 (OpT.move v rfl ?_)
 refine W1 (OpT.callS cal6 [] [] [v] rfl (ca1 rfl) (BeyondRules_spec st _ _ hv) ?_)
 rintro v1 w2 ⟨rfl, st3⟩
 refine Wnt ?_
 refine WC.cond ((beyondB rs)) rfl (fun h4 => ?_) (fun h4 => ?_)
 ·refine WC.seq ?_
  refine WC.region ?_
  refine W1 (OpT.assign (.bool true) rfl ?_)
  refine Wnt ?_
  refine WC.ret <| thenQ_r <| retQ.one (.bool true) rfl ?_
  exact ⟨_, rfl, rfl, st3⟩
 have HB := Bnd.of h4
 have hN : NOk rs := nok_of hsz h4
 obtain ⟨RL, hRL⟩ := reach_all rs
 have hRLl := RL_len hRL hN
 obtain ⟨oo, hoo, HO⟩ := parts_all hN.g draw_closed
 have hel : (edgesF rs).length < 1048576 := Nat.lt_of_le_of_lt (edgesF_len rs) HB.b
 have hnm : (drawF rs).length < 2097152 := hN.g.len
 have hol : oo.length < 2097152 := Nat.lt_of_le_of_lt HO.len (by rw [List.length_map]; exact hnm)
 have hrs := hRLl s
 have hself : hasB (RL s) s = true := hasB_iff.2 (((hRL s).mem s).2 (.refl s))
 refine WC.skip ?_
 refine thenQ_n ?_
 refine Wsr ?_
 refine W1 (OpT.move v rfl ?_)
 refine W1 (OpT.build [(0, v)] [v] tz25 tp25 (mp1 rfl) (by first | (simp [Instr.fill, Value.cells, (Rl.sl_cells hv)]; done) | simp [Instr.fill, (Rl.sl_cells hv), Value.cells.eq_2, show ∀ cs, (Value.agg cs).cells = cs from fun _ => rfl]) ?_)
 refine W1 (OpT.alloc st3 (.agg #[vn]) [vn] tz25 rfl (fun b5 w6 st7 => ?_))
 refine WL.stepN (OpT.storeA st7 0 1 [v] rfl ts25 rfl rfl (aC (Rl.sl_one hv) aN) rfl rfl (fun w8 st9 => ?_))
 refine Wns ?_
 refine W1 (OpT.loadA ⟨b5, 0, none⟩ 1 [v] ta25 ts25 rfl ((st9.rowB (i := 0) rfl).part 0 1) rfl ?_)
 refine W1 (OpT.callS cal7 [] [] [(.agg #[v])] rfl (ca1 rfl) (Edges_spec st9 _ rs hv HB) ?_)
 rintro v12 w13 ⟨o10, c11, st14⟩
 refine W1 (OpT.assign v12 rfl ?_)
 refine Wns ?_
 refine W1 (OpT.loadA ⟨b5, 0, none⟩ 1 [v] ta25 ts25 rfl ((st14.rowB (i := 1) rfl).part 0 1) rfl ?_)
 refine W1 (OpT.move (.string s) rfl ?_)
 refine W1 (OpT.callS cal10 [] [] [(.agg #[v]), (.string s)] rfl (ca2 rfl rfl) (Reach_at hRL st14 _ rs hv HB hN s hps) ?_)
 rintro v17 w18 ⟨o15, c16, st19⟩
 refine W1 (OpT.assign v17 rfl ?_)
 refine Wnt ?_
 refine WC.seq ?_
 refine WC.seq ?_
 obtain ⟨Z20, hx21, hs22, st23⟩ := St.freezeRow (r := rEdg) (xs := (edgesF rs)) ((St.selD 3 [1, 0, 2] rfl rfl (by decide) st19) : St Z w0 w18 (Row 35 4 v12 (edgesF rs).length ((edgesF rs).flatMap ecs) :: Row 9 1 v17 (RL s).length ((RL s).map Value.string) :: Blk b5 25 [v] :: L)) (by omega) (rowsE ((edgesF rs))).2
 have hL24 := hx21.sl hv
 obtain ⟨Z25, hx26, hs27, st28⟩ := St.freezeRow (r := rStr) (xs := (RL s)) (st23 : St Z20 w18 w18 (Row 9 1 v17 (RL s).length ((RL s).map Value.string) :: Blk b5 25 [v] :: L)) (by omega) str_at
 have hL29 := hx26.sl hL24
 have hL30 := hx26.sl hs22
 obtain ⟨pb, rfl⟩ : ∃ x, x = b5 := ⟨_, rfl⟩
 refine WC.region ?_
 refine W1 (OpT.move v17 rfl ?_)
 refine W1 (OpT.callS cal14 [] [] [v17] rfl (ca1 rfl) (rising_spec st28 hs27 (hRL s).nod (hRL s).srt) ?_)
 rintro v31 w32 ⟨rfl, st33⟩
 refine W1 (OpT.not true rfl ?_)
 refine W1 (OpT.move (.bool false) rfl ?_)
 refine W2 (dj := 24) rfl (OpT.move v17 rfl ?_)
 refine W2 (dj := 24) rfl (OpT.move (.string s) rfl ?_)
 refine W2 (dj := 24) rfl (OpT.callS cal9 [] [] [v17, (.string s)] rfl (ca2 rfl rfl) (lhas_spec st33 hs27 s) ?_)
 rintro v34 w35 ⟨rfl, st36⟩
 refine W2 (dj := 24) rfl (OpT.not true (congrArg Value.bool hself) ?_)
 refine W1 (OpT.pickF (.bool false) rfl rfl ?_)
 refine Wnt ?_
 refine WC.condF rfl ?_
 refine WC.skip ?_
 refine thenQ_n ?_
 refine WC.seq ?_
 refine Wsr ?_
 refine W1 (OpT.assign (ii 0) rfl ?_)
 refine Wnt ?_
 refine WC.block ?_
 refine WC.loop (fun m ρ wz => ∃ (i : Nat), m = (edgesF rs).length - i ∧ i ≤ (edgesF rs).length ∧ ρ 8 = (ni i) ∧ ρ 1 = (.string s) ∧ ρ 5 = (pt pb 0) ∧ ρ 6 = v12 ∧ ρ 7 = v17 ∧ St Z25 w18 wz (Blk pb 25 [v] :: L)) _ ⟨0, rfl, by omega, rfl, rfl, rfl, rfl, rfl, st36⟩ ?_
 rintro m37 ρ38 w39 ⟨i, hm47, hp41, hs42, hs43, hs44, hs45, hs46, st40⟩
 refine WC.seq ?_
 refine Wsr ?_
 refine W1 (OpT.move (ni i) hs42 ?_)
 refine W1 (OpT.move v12 hs45 ?_)
 refine W1 (OpT.lenR rfl tu26 hL30 rfl ?_)
 refine W1 (OpT.ilt .i64 (((i : Nat) : Int)) ((((edgesF rs).length : Nat) : Int)) rfl rfl ?_)
 refine Wnt ?_
 refine WC.condP (((i : Nat) : Int) < (((edgesF rs).length : Nat) : Int)) rfl (fun h48 => ?_) (fun h48 => ?_)
 ·refine WC.skip ?_
  refine thenQ_n ?_
  refine WC.seq ?_
  refine WC.block ?_
  refine WC.seq ?_
  obtain ⟨ed, hed⟩ : ∃ x, (edgesF rs)[i]? = some x := ⟨_, List.getElem?_eq_getElem (by omega)⟩
  refine WC.region ?_
  refine W1 (OpT.move v17 hs46 ?_)
  refine W1 (OpT.move v12 hs45 ?_)
  refine W1 (OpT.move (ni i) hs42 ?_)
  refine W1 (OpT.idxX tu26 ts35 hL30 rfl .i64 (i) rfl hed (fun ad50 cs51 hr52 hR53 => ?_))
  have hR53c := hR53
  obtain rfl := hR53
  refine W1 (OpT.field 0 ad50 ad50 tf35_0 rfl rfl ?_)
  refine W1 (OpT.loadS ad50 (.string ed.frm) ta9 rfl (hr52.cell st40 (j := 0) rfl) ?_)
  refine W1 (OpT.callS cal9 [] [] [v17, (.string ed.frm)] rfl (ca2 rfl rfl) (lhas_spec st40 hs27 ed.frm) ?_)
  rintro v54 w55 ⟨rfl, st56⟩
  refine W1 (OpT.move (.bool (hasB (RL s) ed.frm)) rfl ?_)
  by_cases h57 : (hasB (RL s) ed.frm) = true
  ·refine W2 (dj := 43) (congrArg Value.bool h57) (OpT.move v17 hs46 ?_)
   refine W2 (dj := 43) (congrArg Value.bool h57) (OpT.move v12 hs45 ?_)
   refine W2 (dj := 43) (congrArg Value.bool h57) (OpT.move (ni i) hs42 ?_)
   refine W2 (dj := 43) (congrArg Value.bool h57) (OpT.idxX tu26 ts35 hL30 rfl .i64 (i) rfl hed (fun ad59 cs60 hr61 hR62 => ?_))
   have hR62c := hR62
   obtain rfl := hR62
   refine W2 (dj := 43) (congrArg Value.bool h57) (OpT.field 1 ad59 (ad59.add 1) tf35_1 rfl rfl ?_)
   refine W2 (dj := 43) (congrArg Value.bool h57) (OpT.loadS (ad59.add 1) (.string ed.to) ta9 rfl (hr61.cell st56 (j := 1) rfl) ?_)
   refine W2 (dj := 43) (congrArg Value.bool h57) (OpT.callS cal9 [] [] [v17, (.string ed.to)] rfl (ca2 rfl rfl) (lhas_spec st56 hs27 ed.to) ?_)
   rintro v63 w64 ⟨rfl, st65⟩
   refine W2 (dj := 43) (congrArg Value.bool h57) (OpT.not (hasB (RL s) ed.to) rfl ?_)
   refine W1 (OpT.pickT (.bool (!(hasB (RL s) ed.to))) (congrArg Value.bool h57) rfl ?_)
   refine Wnt ?_
   refine WC.cond ((!(hasB (RL s) ed.to))) rfl (fun h66 => ?_) (fun h66 => ?_)
   ·refine WC.seq ?_
    refine WC.region ?_
    refine W1 (OpT.assign (.bool false) rfl ?_)
    refine Wnt ?_
    refine WC.ret <| blkQ_r <| thenQ_r <| loopQ_r <| blkQ_r <| thenQ_r <| retQ.one (.bool false) rfl ?_
    exfalso
    have q1 : hasB (RL s) ed.frm = true := by simpa using h57
    have q2 : hasB (RL s) ed.to = false := by simpa using h66
    rw [way_on hRL (List.mem_of_getElem? hed) q1] at q2
    cases q2
   refine WC.skip ?_
   refine blkQ_n ?_
   refine thenQ_n ?_
   refine WC.region ?_
   refine W1 (OpT.move (ni i) hs42 ?_)
   refine W1 (OpT.iadd .i64 (((i : Nat) : Int)) (1) (((i + 1 : Nat) : Int)) rfl rfl (wadd (a := i) (b := 1) (by omega)) ?_)
   refine W1 (OpT.assign (ni (i + 1)) rfl ?_)
   refine WL.nil ?_
   exact loopQ_n _ (by omega) ⟨i + 1, rfl, by omega, rfl, hs43, hs44, hs45, hs46, st65⟩
  have h57 := Bool.eq_false_iff.2 h57
  refine WL.pass (dj := 43) (c := false) rfl rfl rfl (congrArg Value.bool h57) rfl ?_
  refine WL.pass (dj := 43) (c := false) rfl rfl rfl (congrArg Value.bool h57) rfl ?_
  refine WL.pass (dj := 43) (c := false) rfl rfl rfl (congrArg Value.bool h57) rfl ?_
  refine WL.pass (dj := 43) (c := false) rfl rfl rfl (congrArg Value.bool h57) rfl ?_
  refine WL.pass (dj := 43) (c := false) rfl rfl rfl (congrArg Value.bool h57) rfl ?_
  refine WL.pass (dj := 43) (c := false) rfl rfl rfl (congrArg Value.bool h57) rfl ?_
  refine WL.pass (dj := 43) (c := false) rfl rfl rfl (congrArg Value.bool h57) rfl ?_
  refine WL.pass (dj := 43) (c := false) rfl rfl rfl (congrArg Value.bool h57) rfl ?_
  refine W1 (OpT.pickF (.bool false) (congrArg Value.bool h57) rfl ?_)
  refine Wnt ?_
  refine WC.condF rfl ?_
  refine WC.skip ?_
  refine blkQ_n ?_
  refine thenQ_n ?_
  refine WC.region ?_
  refine W1 (OpT.move (ni i) hs42 ?_)
  refine W1 (OpT.iadd .i64 (((i : Nat) : Int)) (1) (((i + 1 : Nat) : Int)) rfl rfl (wadd (a := i) (b := 1) (by omega)) ?_)
  refine W1 (OpT.assign (ni (i + 1)) rfl ?_)
  refine WL.nil ?_
  exact loopQ_n _ (by omega) ⟨i + 1, rfl, by omega, rfl, hs43, hs44, hs45, hs46, st56⟩
 refine WC.exit ?_
 refine thenQ_x ?_
 refine loopQ_x ?_
 refine blkQ_hit ?_
 refine thenQ_n ?_
 refine Wsr ?_
 refine W1 (OpT.move (.string s) hs43 ?_)
 refine W1 (OpT.buildSlice st40 [(0, (.string s))] [(.string s)] tu37 ts9 tz9 (mp1 rfl) (by kernel_rfl) (by decide) (fun b67 w68 st69 => ?_))
 refine W1 (OpT.assign (.slice (some ⟨b67, 0, none⟩) 1 1) rfl ?_)
 refine Wnt ?_
 refine WC.seq ?_
 refine Wsr ?_
 refine W1 (OpT.assign (ii 0) rfl ?_)
 refine Wnt ?_
 refine WC.block ?_
 have st70 := St.blkRow (n := 1) (st69 : St Z25 w18 w68 (Blk b67 9 [(.string s)] :: Blk pb 25 [v] :: L)) rfl (by decide)
 replace st70 : St Z25 w18 w68 (Row 9 1 (.slice (some ⟨b67, 0, none⟩) 1 1) ([s]).length (([s]).map Value.string) :: Blk pb 25 [v] :: L) := st70
 refine WC.loop (fun m ρ wz => ∃ (i : Nat), ∃ (S : List ByteArray), ∃ (sv : Value), m = (drawF rs).length + 2 - i ∧ SnI rs s i S ∧ ρ 9 = sv ∧ ρ 10 = (ni i) ∧ ρ 5 = (pt pb 0) ∧ ρ 6 = v12 ∧ ρ 7 = v17 ∧ St Z25 w18 wz (Row 9 1 sv S.length (S.map Value.string) :: Blk pb 25 [v] :: L)) _ ⟨0, [s], (.slice (some ⟨b67, 0, none⟩) 1 1), rfl, SnI.start, rfl, rfl, hs44, hs45, hs46, st70⟩ ?_
 rintro m71 ρ72 w73 ⟨i, S, sv, hm80, HI, hs76, hs75, hs77, hs78, hs79, st74⟩
 have osv := st74.rowOne (i := 0) rfl
 have csv := st74.rowCel (i := 0) rfl
 have hSl := HI.len
 refine WC.seq ?_
 refine Wsr ?_
 refine W1 (OpT.move (ni i) hs75 ?_)
 refine W1 (OpT.move sv hs76 ?_)
 refine W1 (OpT.lenRow st74 0 rfl rfl tu37 rfl ?_)
 refine W1 (OpT.ilt .i64 (((i : Nat) : Int)) (((S.length : Nat) : Int)) rfl rfl ?_)
 refine Wnt ?_
 refine WC.condP (((i : Nat) : Int) < ((S.length : Nat) : Int)) rfl (fun h81 => ?_) (fun h81 => ?_)
 ·refine WC.skip ?_
  refine thenQ_n ?_
  refine WC.seq ?_
  refine WC.block ?_
  refine WC.seq ?_
  obtain ⟨sx, hsx⟩ : ∃ x, S[i]? = some x := ⟨_, List.getElem?_eq_getElem (by omega)⟩
  refine WC.region ?_
  refine W1 (OpT.assign (ii 0) rfl ?_)
  refine Wnt ?_
  refine WC.block ?_
  refine WC.loop (fun m ρ wz => ∃ (k : Nat), ∃ (S : List ByteArray), ∃ (sv : Value), m = (edgesF rs).length - k ∧ k ≤ (edgesF rs).length ∧ SnI rs s i S ∧ SnK (edgesF rs) sx k S ∧ S[i]? = some sx ∧ i < S.length ∧ ρ 9 = sv ∧ ρ 11 = (ni k) ∧ ρ 5 = (pt pb 0) ∧ ρ 6 = v12 ∧ ρ 7 = v17 ∧ ρ 10 = (ni i) ∧ St Z25 w18 wz (Row 9 1 sv S.length (S.map Value.string) :: Blk pb 25 [v] :: L)) _ ⟨0, S, sv, rfl, by omega, HI, fun j e hj => absurd hj (Nat.not_lt_zero _), hsx, by omega, hs76, rfl, hs77, hs78, hs79, hs75, st74⟩ ?_
  rintro m82 ρ83 w84 ⟨k, S, sv, hm93, hp86, HI, HK, hsx, hil, hs88, hs87, hs89, hs90, hs91, hs92, st85⟩
  have osv := st85.rowOne (i := 0) rfl
  have csv := st85.rowCel (i := 0) rfl
  have hSl := HI.len
  refine WC.seq ?_
  refine Wsr ?_
  refine W1 (OpT.move (ni k) hs87 ?_)
  refine W1 (OpT.move v12 hs90 ?_)
  refine W1 (OpT.lenR rfl tu26 hL30 rfl ?_)
  refine W1 (OpT.ilt .i64 (((k : Nat) : Int)) ((((edgesF rs).length : Nat) : Int)) rfl rfl ?_)
  refine Wnt ?_
  refine WC.condP (((k : Nat) : Int) < (((edgesF rs).length : Nat) : Int)) rfl (fun h94 => ?_) (fun h94 => ?_)
  ·refine WC.skip ?_
   refine thenQ_n ?_
   refine WC.seq ?_
   refine WC.block ?_
   refine WC.seq ?_
   obtain ⟨ce, hce⟩ : ∃ x, (edgesF rs)[k]? = some x := ⟨_, List.getElem?_eq_getElem (by omega)⟩
   obtain ⟨gk96, cap97, ex98, rfl, hE99, hc100, hm101, st95⟩ := St.openRow (by omega) (st85 : St Z25 w18 w84 (Row 9 1 sv S.length (S.map Value.string) :: Blk pb 25 [v] :: L))
   replace st95 : St Z25 w18 w84 (Blk gk96 9 (S.map Value.string ++ ex98) :: Blk pb 25 [v] :: L) := st95
   obtain ⟨adq1, csq1, hEq1, hrq1, hRq1⟩ := Rl.sl_el hL30 hce
   have hRq1c := hRq1
   obtain rfl := hRq1
   by_cases h102 : ce.frm = sx
   ·refine WC.draw 20 (fun jj vv => match jj with | 0 => vv = v12 | 1 => vv = (ni k) | 2 => vv = (.pointer (some adq1)) | 3 => vv = (.pointer (some adq1)) | 4 => vv = (.string ce.frm) | 5 => vv = (sl gk96 S.length cap97) | 6 => vv = (ni i) | 7 => vv = (.pointer (some ⟨gk96, i, none⟩)) | 8 => vv = (.string sx) | 9 => vv = (.bool (decide (ce.frm = sx))) | 10 => vv = (.bool (decide (ce.frm = sx))) | 11 => vv = (sl gk96 S.length cap97) | 12 => vv = v12 | 13 => vv = (ni k) | 14 => vv = (.pointer (some adq1)) | 15 => vv = (.pointer (some (adq1.add 1))) | 16 => vv = (.string ce.to) | 17 => vv = (.bool (hasB S ce.to)) | 18 => vv = (.bool (!(hasB S ce.to))) | 19 => vv = (.bool (!(hasB S ce.to))) | _ => True) (fun _ _ => []) st95 fmix (by kernel_rfl) ((obS (obS (obS (obS (obS (obS (obS (obS (obS (obS (obS (obS (obS (obS (obS (obS (obS (obS (obS (obS ob0 ?_) ?_) ?_) ?_) ?_) ?_) ?_) ?_) ?_) ?_) ?_) ?_) ?_) ?_) ?_) ?_) ?_) ?_) ?_) ?_)) ?_
    ·intro vals ρ w104 X hd h0 st103
     have e105 : ρ 6 = v12 := (h0 6 rfl).trans hs90
     refine W1 (OpT.move v12 e105 ?_)
     refine WL.nil ?_
     exact oneQ.mk ⟨rfl, st103⟩
    ·intro vals ρ w107 X hd h0 st106
     have e108 : ρ 11 = (ni k) := (h0 11 rfl).trans hs87
     refine W1 (OpT.move (ni k) e108 ?_)
     refine WL.nil ?_
     exact oneQ.mk ⟨rfl, st106⟩
    ·intro vals ρ w110 X hd h0 st109
     have e111 : ρ 67 = v12 := ((hd 0 rfl).2 67 rfl).trans (hd 0 rfl).1
     have e112 : ρ 68 = (ni k) := ((hd 1 rfl).2 68 rfl).trans (hd 1 rfl).1
     refine W1 (OpT.idxE tu26 ts35 e111 .i64 (k) e112 hEq1 ?_)
     refine WL.nil ?_
     exact oneQ.mk ⟨rfl, st109⟩
    ·intro vals ρ w119 X hd h0 st118
     have e120 : ρ 69 = (.pointer (some adq1)) := ((hd 2 rfl).2 69 rfl).trans (hd 2 rfl).1
     refine W1 (OpT.field 0 adq1 adq1 tf35_0 e120 rfl ?_)
     refine WL.nil ?_
     exact oneQ.mk ⟨rfl, st118⟩
    ·intro vals ρ w122 X hd h0 st121
     have e123 : ρ 70 = (.pointer (some adq1)) := ((hd 3 rfl).2 70 rfl).trans (hd 3 rfl).1
     refine W1 (OpT.loadS adq1 (.string ce.frm) ta9 e123 (hrq1.cell st121 (j := 0) rfl) ?_)
     refine WL.nil ?_
     exact oneQ.mk ⟨rfl, st121⟩
    ·intro vals ρ w125 X hd h0 st124
     have e126 : ρ 9 = (sl gk96 S.length cap97) := (h0 9 rfl).trans hs88
     refine W1 (OpT.move (sl gk96 S.length cap97) e126 ?_)
     refine WL.nil ?_
     exact oneQ.mk ⟨rfl, st124⟩
    ·intro vals ρ w128 X hd h0 st127
     have e129 : ρ 10 = (ni i) := (h0 10 rfl).trans hs92
     refine W1 (OpT.move (ni i) e129 ?_)
     refine WL.nil ?_
     exact oneQ.mk ⟨rfl, st127⟩
    ·intro vals ρ w131 X hd h0 st130
     have e132 : ρ 72 = (sl gk96 S.length cap97) := ((hd 5 rfl).2 72 rfl).trans (hd 5 rfl).1
     have e133 : ρ 73 = (ni i) := ((hd 6 rfl).2 73 rfl).trans (hd 6 rfl).1
     refine W1 (OpT.idx 1 ⟨gk96, 0, none⟩ ⟨gk96, i, none⟩ S.length cap97 .i64 (((i : Nat) : Int)) tu37 ts9 e132 e133 (by omega) (by omega) (add_at _ _) ?_)
     refine WL.nil ?_
     exact oneQ.mk ⟨rfl, st130⟩
    ·intro vals ρ w135 X hd h0 st134
     have e136 : ρ 74 = (.pointer (some ⟨gk96, i, none⟩)) := ((hd 7 rfl).2 74 rfl).trans (hd 7 rfl).1
     refine W1 (OpT.loadS ⟨gk96, i, none⟩ (.string sx) ta9 e136 (st134.cellB (i := 0) rfl (by rw [List.getElem?_append_left (by rw [List.length_map]; exact (List.getElem?_eq_some_iff.1 hsx).1), List.getElem?_map, hsx]; rfl)) ?_)
     refine WL.nil ?_
     exact oneQ.mk ⟨rfl, st134⟩
    ·intro vals ρ w138 X hd h0 st137
     have e139 : ρ 71 = (.string ce.frm) := ((hd 4 rfl).2 71 rfl).trans (hd 4 rfl).1
     have e140 : ρ 75 = (.string sx) := ((hd 8 rfl).2 75 rfl).trans (hd 8 rfl).1
     refine W1 (OpT.seq (ce.frm) (sx) e139 e140 ?_)
     refine WL.nil ?_
     exact oneQ.mk ⟨rfl, st137⟩
    ·intro vals ρ w142 X hd h0 st141
     have e143 : ρ 76 = (.bool (decide (ce.frm = sx))) := ((hd 9 rfl).2 76 rfl).trans (hd 9 rfl).1
     refine W1 (OpT.move (.bool (decide (ce.frm = sx))) e143 ?_)
     refine WL.nil ?_
     exact oneQ.mk ⟨rfl, st141⟩
    ·intro vals ρ w145 X hd h0 st144
     have e146 : ρ 9 = (sl gk96 S.length cap97) := (h0 9 rfl).trans hs88
     have e147 : ρ 77 = (.bool (decide (ce.frm = sx))) := ((hd 10 rfl).2 77 rfl).trans (hd 10 rfl).1
     refine W2 (dj := 77) (e147.trans (bT h102)) (OpT.move (sl gk96 S.length cap97) e146 ?_)
     refine WL.nil ?_
     exact oneQ.mk ⟨rfl, st144⟩
    ·intro vals ρ w149 X hd h0 st148
     have e150 : ρ 6 = v12 := (h0 6 rfl).trans hs90
     have e151 : ρ 77 = (.bool (decide (ce.frm = sx))) := ((hd 10 rfl).2 77 rfl).trans (hd 10 rfl).1
     refine W2 (dj := 77) (e151.trans (bT h102)) (OpT.move v12 e150 ?_)
     refine WL.nil ?_
     exact oneQ.mk ⟨rfl, st148⟩
    ·intro vals ρ w153 X hd h0 st152
     have e154 : ρ 11 = (ni k) := (h0 11 rfl).trans hs87
     have e155 : ρ 77 = (.bool (decide (ce.frm = sx))) := ((hd 10 rfl).2 77 rfl).trans (hd 10 rfl).1
     refine W2 (dj := 77) (e155.trans (bT h102)) (OpT.move (ni k) e154 ?_)
     refine WL.nil ?_
     exact oneQ.mk ⟨rfl, st152⟩
    ·intro vals ρ w157 X hd h0 st156
     have e158 : ρ 77 = (.bool (decide (ce.frm = sx))) := ((hd 10 rfl).2 77 rfl).trans (hd 10 rfl).1
     have e159 : ρ 79 = v12 := ((hd 12 rfl).2 79 rfl).trans (hd 12 rfl).1
     have e160 : ρ 80 = (ni k) := ((hd 13 rfl).2 80 rfl).trans (hd 13 rfl).1
     refine W2 (dj := 77) (e158.trans (bT h102)) (OpT.idxE tu26 ts35 e159 .i64 (k) e160 hEq1 ?_)
     refine WL.nil ?_
     exact oneQ.mk ⟨rfl, st156⟩
    ·intro vals ρ w167 X hd h0 st166
     have e168 : ρ 77 = (.bool (decide (ce.frm = sx))) := ((hd 10 rfl).2 77 rfl).trans (hd 10 rfl).1
     have e169 : ρ 81 = (.pointer (some adq1)) := ((hd 14 rfl).2 81 rfl).trans (hd 14 rfl).1
     refine W2 (dj := 77) (e168.trans (bT h102)) (OpT.field 1 adq1 (adq1.add 1) tf35_1 e169 rfl ?_)
     refine WL.nil ?_
     exact oneQ.mk ⟨rfl, st166⟩
    ·intro vals ρ w171 X hd h0 st170
     have e172 : ρ 77 = (.bool (decide (ce.frm = sx))) := ((hd 10 rfl).2 77 rfl).trans (hd 10 rfl).1
     have e173 : ρ 82 = (.pointer (some (adq1.add 1))) := ((hd 15 rfl).2 82 rfl).trans (hd 15 rfl).1
     refine W2 (dj := 77) (e172.trans (bT h102)) (OpT.loadS (adq1.add 1) (.string ce.to) ta9 e173 (hrq1.cell st170 (j := 1) rfl) ?_)
     refine WL.nil ?_
     exact oneQ.mk ⟨rfl, st170⟩
    ·intro vals ρ w175 X hd h0 st174
     have e176 : ρ 77 = (.bool (decide (ce.frm = sx))) := ((hd 10 rfl).2 77 rfl).trans (hd 10 rfl).1
     have e177 : ρ 78 = (sl gk96 S.length cap97) := ((hd 11 rfl).2 78 rfl).trans (hd 11 rfl).1
     have e178 : ρ 83 = (.string ce.to) := ((hd 16 rfl).2 83 rfl).trans (hd 16 rfl).1
     obtain ⟨Z179, hz180, hw181, hr182, st183, bk184⟩ := St.freezeB (st174 : St Z25 w18 w175 (Blk gk96 9 (S.map Value.string ++ ex98) :: Blk pb 25 [v] :: (L ++ X)))
     have hq185 := sl_cells (c := cap97) (S := S) hr182 (by omega)
     refine W2 (dj := 77) (e176.trans (bT h102)) (OpT.callS cal9 [] [] [(sl gk96 S.length cap97), (.string ce.to)] rfl (ca2 e177 e178) (lhas_spec st183 hq185 ce.to) ?_)
     rintro v186 w187 ⟨rfl, st188⟩
     replace st188 := bk184 _ _ st188
     refine WL.nil ?_
     exact oneQ.mk ⟨rfl, st188⟩
    ·intro vals ρ w190 X hd h0 st189
     have e191 : ρ 77 = (.bool (decide (ce.frm = sx))) := ((hd 10 rfl).2 77 rfl).trans (hd 10 rfl).1
     have e192 : ρ 84 = (.bool (hasB S ce.to)) := ((hd 17 rfl).2 84 rfl).trans (hd 17 rfl).1
     refine W2 (dj := 77) (e191.trans (bT h102)) (OpT.not (hasB S ce.to) e192 ?_)
     refine WL.nil ?_
     exact oneQ.mk ⟨rfl, st189⟩
    ·intro vals ρ w194 X hd h0 st193
     have e195 : ρ 77 = (.bool (decide (ce.frm = sx))) := ((hd 10 rfl).2 77 rfl).trans (hd 10 rfl).1
     have e196 : ρ 85 = (.bool (!(hasB S ce.to))) := ((hd 18 rfl).2 85 rfl).trans (hd 18 rfl).1
     refine W1 (OpT.pickT (.bool (!(hasB S ce.to))) (e195.trans (bT h102)) e196 ?_)
     refine WL.nil ?_
     exact oneQ.mk ⟨rfl, st193⟩
    intro vals ρ199 w198 hv h0 st197
    replace st197 : St Z25 w18 w198 (Blk gk96 9 (S.map Value.string ++ ex98) :: Blk pb 25 [v] :: L) := st197
    have e200 : ρ199 5 = (pt pb 0) := (h0 5 rfl).trans hs89
    have e201 : ρ199 6 = v12 := (h0 6 rfl).trans hs90
    have e202 : ρ199 7 = v17 := (h0 7 rfl).trans hs91
    have e203 : ρ199 9 = (sl gk96 S.length cap97) := (h0 9 rfl).trans hs88
    have e204 : ρ199 10 = (ni i) := (h0 10 rfl).trans hs92
    have e205 : ρ199 11 = (ni k) := (h0 11 rfl).trans hs87
    have e206 : ρ199 86 = (.bool (!(hasB S ce.to))) := ((hv 19 rfl).2 86 rfl).trans (hv 19 rfl).1
    clear hv h0
    refine Wnt ?_
    refine WC.cond ((!(hasB S ce.to))) e206 (fun h207 => ?_) (fun h207 => ?_)
    ·have st208 : St Z25 w18 w198 (Row 9 1 (sl gk96 S.length cap97) S.length (S.map Value.string) :: Blk pb 25 [v] :: L) := St.shutRow (st197 : St Z25 w18 w198 (Blk gk96 9 (S.map Value.string ++ ex98) :: Blk pb 25 [v] :: L)) (by simp only [List.length_append, List.length_map]; omega) (by omega) hm101 (by rw [Nat.mul_one, List.take_append_of_le_length (by rw [List.length_map]; exact Nat.le_refl _), List.take_of_length_le (by rw [List.length_map]; exact Nat.le_refl _)])
     refine WC.region ?_
     refine W1 (OpT.move (sl gk96 S.length cap97) e203 ?_)
     refine W1 (OpT.move v12 e201 ?_)
     refine W1 (OpT.move (ni k) e205 ?_)
     refine W1 (OpT.idxE tu26 ts35 rfl .i64 (k) rfl hEq1 ?_)
     refine W1 (OpT.field 1 adq1 (adq1.add 1) tf35_1 rfl rfl ?_)
     refine W1 (OpT.loadS (adq1.add 1) (.string ce.to) ta9 rfl (hrq1.cell st208 (j := 1) rfl) ?_)
     refine W1 (OpT.buildSlice st208 [(0, (.string ce.to))] [(.string ce.to)] tu37 ts9 tz9 (mp1 rfl) (by kernel_rfl) (by decide) (fun b214 w215 st216 => ?_))
     have st217 : St Z25 w18 w215 (Blk b214 9 [(.string ce.to)] :: Row 9 1 (sl gk96 S.length cap97) S.length (S.map Value.string) :: Blk pb 25 [v] :: L) := St.selT [Blk b214 9 [(.string ce.to)], Row 9 1 (sl gk96 S.length cap97) S.length (S.map Value.string), Blk pb 25 [v]] [0, 1, 2] rfl (by decide) st216
     refine W1 (OpT.append st217 1 tu37 ts9 tz9 rfl tb9 (by decide) rfl rfl rfl rfl (by omega) (by omega) (fun v218 w219 st220 hn221 => ?_))
     have o222 := st220.rowOne (i := 0) rfl
     have c223 := st220.rowCel (i := 0) rfl
     have st224 : St Z25 w18 w219 (Row 9 1 v218 (S ++ [ce.to]).length ((S ++ [ce.to]).map Value.string) :: Blk pb 25 [v] :: L) := by rw [List.length_append, List.map_append]; exact st220
     refine W1 (OpT.assign v218 rfl ?_)
     refine WL.nil ?_
     refine blkQ_n ?_
     refine thenQ_n ?_
     refine WC.region ?_
     refine W1 (OpT.move (ni k) e205 ?_)
     refine W1 (OpT.iadd .i64 (((k : Nat) : Int)) (1) (((k + 1 : Nat) : Int)) rfl rfl (wadd (a := k) (b := 1) (by omega)) ?_)
     refine W1 (OpT.assign (ni (k + 1)) rfl ?_)
     refine WL.nil ?_
     have hhas : hasB S ce.to = false := by simpa using h207
     have HI2 := HI.put (t := ce.to) (hasB_not.1 hhas) (HI.edge hsx (List.mem_of_getElem? hce) h102) (List.getElem?_eq_some_iff.1 hsx).1
     exact loopQ_n _ (by omega) ⟨k + 1, (S ++ [ce.to]), v218, rfl, by omega, HI2, (HK.put ce.to).keep hce (List.mem_append_right _ (by simp)), by rw [List.getElem?_append_left (List.getElem?_eq_some_iff.1 hsx).1]; exact hsx, by simp; omega, rfl, rfl, e200, e201, e202, e204, st224⟩
    refine WC.skip ?_
    refine blkQ_n ?_
    refine thenQ_n ?_
    refine WC.region ?_
    refine W1 (OpT.move (ni k) e205 ?_)
    refine W1 (OpT.iadd .i64 (((k : Nat) : Int)) (1) (((k + 1 : Nat) : Int)) rfl rfl (wadd (a := k) (b := 1) (by omega)) ?_)
    refine W1 (OpT.assign (ni (k + 1)) rfl ?_)
    refine WL.nil ?_
    have st225 : St Z25 w18 w198 (Row 9 1 (sl gk96 S.length cap97) S.length (S.map Value.string) :: Blk pb 25 [v] :: L) := St.shutRow (st197 : St Z25 w18 w198 (Blk gk96 9 (S.map Value.string ++ ex98) :: Blk pb 25 [v] :: L)) (by simp only [List.length_append, List.length_map]; omega) (by omega) hm101 (by rw [Nat.mul_one, List.take_append_of_le_length (by rw [List.length_map]; exact Nat.le_refl _), List.take_of_length_le (by rw [List.length_map]; exact Nat.le_refl _)])
    have hhas : hasB S ce.to = true := by simpa using h207
    exact loopQ_n _ (by omega) ⟨k + 1, S, (sl gk96 S.length cap97), rfl, by omega, HI, HK.keep hce (hasB_iff.1 hhas), hsx, hil, e203, rfl, e200, e201, e202, e204, st225⟩
   refine WC.draw 20 (fun jj vv => match jj with | 0 => vv = v12 | 1 => vv = (ni k) | 2 => vv = (.pointer (some adq1)) | 3 => vv = (.pointer (some adq1)) | 4 => vv = (.string ce.frm) | 5 => vv = (sl gk96 S.length cap97) | 6 => vv = (ni i) | 7 => vv = (.pointer (some ⟨gk96, i, none⟩)) | 8 => vv = (.string sx) | 9 => vv = (.bool (decide (ce.frm = sx))) | 10 => vv = (.bool (decide (ce.frm = sx))) | 11 => vv = undef | 12 => vv = undef | 13 => vv = undef | 14 => vv = undef | 15 => vv = undef | 16 => vv = undef | 17 => vv = undef | 18 => vv = undef | 19 => vv = (.bool false) | _ => True) (fun _ _ => []) st95 fmix (by kernel_rfl) ((obS (obS (obS (obS (obS (obS (obS (obS (obS (obS (obS (obS (obS (obS (obS (obS (obS (obS (obS (obS ob0 ?_) ?_) ?_) ?_) ?_) ?_) ?_) ?_) ?_) ?_) ?_) ?_) ?_) ?_) ?_) ?_) ?_) ?_) ?_) ?_)) ?_
   ·intro vals ρ w227 X hd h0 st226
    have e228 : ρ 6 = v12 := (h0 6 rfl).trans hs90
    refine W1 (OpT.move v12 e228 ?_)
    refine WL.nil ?_
    exact oneQ.mk ⟨rfl, st226⟩
   ·intro vals ρ w230 X hd h0 st229
    have e231 : ρ 11 = (ni k) := (h0 11 rfl).trans hs87
    refine W1 (OpT.move (ni k) e231 ?_)
    refine WL.nil ?_
    exact oneQ.mk ⟨rfl, st229⟩
   ·intro vals ρ w233 X hd h0 st232
    have e234 : ρ 67 = v12 := ((hd 0 rfl).2 67 rfl).trans (hd 0 rfl).1
    have e235 : ρ 68 = (ni k) := ((hd 1 rfl).2 68 rfl).trans (hd 1 rfl).1
    refine W1 (OpT.idxE tu26 ts35 e234 .i64 (k) e235 hEq1 ?_)
    refine WL.nil ?_
    exact oneQ.mk ⟨rfl, st232⟩
   ·intro vals ρ w242 X hd h0 st241
    have e243 : ρ 69 = (.pointer (some adq1)) := ((hd 2 rfl).2 69 rfl).trans (hd 2 rfl).1
    refine W1 (OpT.field 0 adq1 adq1 tf35_0 e243 rfl ?_)
    refine WL.nil ?_
    exact oneQ.mk ⟨rfl, st241⟩
   ·intro vals ρ w245 X hd h0 st244
    have e246 : ρ 70 = (.pointer (some adq1)) := ((hd 3 rfl).2 70 rfl).trans (hd 3 rfl).1
    refine W1 (OpT.loadS adq1 (.string ce.frm) ta9 e246 (hrq1.cell st244 (j := 0) rfl) ?_)
    refine WL.nil ?_
    exact oneQ.mk ⟨rfl, st244⟩
   ·intro vals ρ w248 X hd h0 st247
    have e249 : ρ 9 = (sl gk96 S.length cap97) := (h0 9 rfl).trans hs88
    refine W1 (OpT.move (sl gk96 S.length cap97) e249 ?_)
    refine WL.nil ?_
    exact oneQ.mk ⟨rfl, st247⟩
   ·intro vals ρ w251 X hd h0 st250
    have e252 : ρ 10 = (ni i) := (h0 10 rfl).trans hs92
    refine W1 (OpT.move (ni i) e252 ?_)
    refine WL.nil ?_
    exact oneQ.mk ⟨rfl, st250⟩
   ·intro vals ρ w254 X hd h0 st253
    have e255 : ρ 72 = (sl gk96 S.length cap97) := ((hd 5 rfl).2 72 rfl).trans (hd 5 rfl).1
    have e256 : ρ 73 = (ni i) := ((hd 6 rfl).2 73 rfl).trans (hd 6 rfl).1
    refine W1 (OpT.idx 1 ⟨gk96, 0, none⟩ ⟨gk96, i, none⟩ S.length cap97 .i64 (((i : Nat) : Int)) tu37 ts9 e255 e256 (by omega) (by omega) (add_at _ _) ?_)
    refine WL.nil ?_
    exact oneQ.mk ⟨rfl, st253⟩
   ·intro vals ρ w258 X hd h0 st257
    have e259 : ρ 74 = (.pointer (some ⟨gk96, i, none⟩)) := ((hd 7 rfl).2 74 rfl).trans (hd 7 rfl).1
    refine W1 (OpT.loadS ⟨gk96, i, none⟩ (.string sx) ta9 e259 (st257.cellB (i := 0) rfl (by rw [List.getElem?_append_left (by rw [List.length_map]; exact (List.getElem?_eq_some_iff.1 hsx).1), List.getElem?_map, hsx]; rfl)) ?_)
    refine WL.nil ?_
    exact oneQ.mk ⟨rfl, st257⟩
   ·intro vals ρ w261 X hd h0 st260
    have e262 : ρ 71 = (.string ce.frm) := ((hd 4 rfl).2 71 rfl).trans (hd 4 rfl).1
    have e263 : ρ 75 = (.string sx) := ((hd 8 rfl).2 75 rfl).trans (hd 8 rfl).1
    refine W1 (OpT.seq (ce.frm) (sx) e262 e263 ?_)
    refine WL.nil ?_
    exact oneQ.mk ⟨rfl, st260⟩
   ·intro vals ρ w265 X hd h0 st264
    have e266 : ρ 76 = (.bool (decide (ce.frm = sx))) := ((hd 9 rfl).2 76 rfl).trans (hd 9 rfl).1
    refine W1 (OpT.move (.bool (decide (ce.frm = sx))) e266 ?_)
    refine WL.nil ?_
    exact oneQ.mk ⟨rfl, st264⟩
   ·intro vals ρ w268 X hd h0 st267
    have e269 : ρ 9 = (sl gk96 S.length cap97) := (h0 9 rfl).trans hs88
    have e270 : ρ 77 = (.bool (decide (ce.frm = sx))) := ((hd 10 rfl).2 77 rfl).trans (hd 10 rfl).1
    refine WL.pass (dj := 77) (c := false) rfl rfl rfl (e270.trans (bF h102)) rfl ?_
    refine WL.nil ?_
    exact oneQ.mk ⟨rfl, st267⟩
   ·intro vals ρ w272 X hd h0 st271
    have e273 : ρ 6 = v12 := (h0 6 rfl).trans hs90
    have e274 : ρ 77 = (.bool (decide (ce.frm = sx))) := ((hd 10 rfl).2 77 rfl).trans (hd 10 rfl).1
    refine WL.pass (dj := 77) (c := false) rfl rfl rfl (e274.trans (bF h102)) rfl ?_
    refine WL.nil ?_
    exact oneQ.mk ⟨rfl, st271⟩
   ·intro vals ρ w276 X hd h0 st275
    have e277 : ρ 11 = (ni k) := (h0 11 rfl).trans hs87
    have e278 : ρ 77 = (.bool (decide (ce.frm = sx))) := ((hd 10 rfl).2 77 rfl).trans (hd 10 rfl).1
    refine WL.pass (dj := 77) (c := false) rfl rfl rfl (e278.trans (bF h102)) rfl ?_
    refine WL.nil ?_
    exact oneQ.mk ⟨rfl, st275⟩
   ·intro vals ρ w280 X hd h0 st279
    have e281 : ρ 77 = (.bool (decide (ce.frm = sx))) := ((hd 10 rfl).2 77 rfl).trans (hd 10 rfl).1
    have e282 : ρ 79 = undef := ((hd 12 rfl).2 79 rfl).trans (hd 12 rfl).1
    have e283 : ρ 80 = undef := ((hd 13 rfl).2 80 rfl).trans (hd 13 rfl).1
    refine WL.pass (dj := 77) (c := false) rfl rfl rfl (e281.trans (bF h102)) rfl ?_
    refine WL.nil ?_
    exact oneQ.mk ⟨rfl, st279⟩
   ·intro vals ρ w285 X hd h0 st284
    have e286 : ρ 77 = (.bool (decide (ce.frm = sx))) := ((hd 10 rfl).2 77 rfl).trans (hd 10 rfl).1
    have e287 : ρ 81 = undef := ((hd 14 rfl).2 81 rfl).trans (hd 14 rfl).1
    refine WL.pass (dj := 77) (c := false) rfl rfl rfl (e286.trans (bF h102)) rfl ?_
    refine WL.nil ?_
    exact oneQ.mk ⟨rfl, st284⟩
   ·intro vals ρ w289 X hd h0 st288
    have e290 : ρ 77 = (.bool (decide (ce.frm = sx))) := ((hd 10 rfl).2 77 rfl).trans (hd 10 rfl).1
    have e291 : ρ 82 = undef := ((hd 15 rfl).2 82 rfl).trans (hd 15 rfl).1
    refine WL.pass (dj := 77) (c := false) rfl rfl rfl (e290.trans (bF h102)) rfl ?_
    refine WL.nil ?_
    exact oneQ.mk ⟨rfl, st288⟩
   ·intro vals ρ w293 X hd h0 st292
    have e294 : ρ 77 = (.bool (decide (ce.frm = sx))) := ((hd 10 rfl).2 77 rfl).trans (hd 10 rfl).1
    have e295 : ρ 78 = undef := ((hd 11 rfl).2 78 rfl).trans (hd 11 rfl).1
    have e296 : ρ 83 = undef := ((hd 16 rfl).2 83 rfl).trans (hd 16 rfl).1
    refine WL.pass (dj := 77) (c := false) rfl rfl rfl (e294.trans (bF h102)) rfl ?_
    refine WL.nil ?_
    exact oneQ.mk ⟨rfl, st292⟩
   ·intro vals ρ w298 X hd h0 st297
    have e299 : ρ 77 = (.bool (decide (ce.frm = sx))) := ((hd 10 rfl).2 77 rfl).trans (hd 10 rfl).1
    have e300 : ρ 84 = undef := ((hd 17 rfl).2 84 rfl).trans (hd 17 rfl).1
    refine WL.pass (dj := 77) (c := false) rfl rfl rfl (e299.trans (bF h102)) rfl ?_
    refine WL.nil ?_
    exact oneQ.mk ⟨rfl, st297⟩
   ·intro vals ρ w302 X hd h0 st301
    have e303 : ρ 77 = (.bool (decide (ce.frm = sx))) := ((hd 10 rfl).2 77 rfl).trans (hd 10 rfl).1
    have e304 : ρ 85 = undef := ((hd 18 rfl).2 85 rfl).trans (hd 18 rfl).1
    refine W1 (OpT.pickF (.bool false) (e303.trans (bF h102)) rfl ?_)
    refine WL.nil ?_
    exact oneQ.mk ⟨rfl, st301⟩
   intro vals ρ307 w306 hv h0 st305
   replace st305 : St Z25 w18 w306 (Blk gk96 9 (S.map Value.string ++ ex98) :: Blk pb 25 [v] :: L) := st305
   have e308 : ρ307 5 = (pt pb 0) := (h0 5 rfl).trans hs89
   have e309 : ρ307 6 = v12 := (h0 6 rfl).trans hs90
   have e310 : ρ307 7 = v17 := (h0 7 rfl).trans hs91
   have e311 : ρ307 9 = (sl gk96 S.length cap97) := (h0 9 rfl).trans hs88
   have e312 : ρ307 10 = (ni i) := (h0 10 rfl).trans hs92
   have e313 : ρ307 11 = (ni k) := (h0 11 rfl).trans hs87
   have e314 : ρ307 86 = (.bool false) := ((hv 19 rfl).2 86 rfl).trans (hv 19 rfl).1
   clear hv h0
   refine Wnt ?_
   refine WC.condF e314 ?_
   refine WC.skip ?_
   refine blkQ_n ?_
   refine thenQ_n ?_
   refine WC.region ?_
   refine W1 (OpT.move (ni k) e313 ?_)
   refine W1 (OpT.iadd .i64 (((k : Nat) : Int)) (1) (((k + 1 : Nat) : Int)) rfl rfl (wadd (a := k) (b := 1) (by omega)) ?_)
   refine W1 (OpT.assign (ni (k + 1)) rfl ?_)
   refine WL.nil ?_
   have st315 : St Z25 w18 w306 (Row 9 1 (sl gk96 S.length cap97) S.length (S.map Value.string) :: Blk pb 25 [v] :: L) := St.shutRow (st305 : St Z25 w18 w306 (Blk gk96 9 (S.map Value.string ++ ex98) :: Blk pb 25 [v] :: L)) (by simp only [List.length_append, List.length_map]; omega) (by omega) hm101 (by rw [Nat.mul_one, List.take_append_of_le_length (by rw [List.length_map]; exact Nat.le_refl _), List.take_of_length_le (by rw [List.length_map]; exact Nat.le_refl _)])
   exact loopQ_n _ (by omega) ⟨k + 1, S, (sl gk96 S.length cap97), rfl, by omega, HI, HK.skip hce h102, hsx, hil, e311, rfl, e308, e309, e310, e312, st315⟩
  refine WC.exit ?_
  refine thenQ_x ?_
  refine loopQ_x ?_
  refine blkQ_hit ?_
  refine blkQ_n ?_
  refine thenQ_n ?_
  refine WC.region ?_
  refine W1 (OpT.move (ni i) hs92 ?_)
  refine W1 (OpT.iadd .i64 (((i : Nat) : Int)) (1) (((i + 1 : Nat) : Int)) rfl rfl (wadd (a := i) (b := 1) (by omega)) ?_)
  refine W1 (OpT.assign (ni (i + 1)) rfl ?_)
  refine WL.nil ?_
  exact loopQ_n _ (by omega) ⟨i + 1, S, sv, rfl, HI.next hsx (fun j e hj he => HK j e (by omega) he), hs88, rfl, hs89, hs90, hs91, st85⟩
 refine WC.exit ?_
 refine thenQ_x ?_
 refine loopQ_x ?_
 refine blkQ_hit ?_
 refine thenQ_n ?_
 refine WC.seq ?_
 have hfin := HI.fin (by omega) (hRL s)
 refine WC.region ?_
 refine W1 (OpT.move sv hs76 ?_)
 refine W1 (OpT.lenRow st74 0 rfl rfl tu37 rfl ?_)
 refine W1 (OpT.move v17 hs79 ?_)
 refine W1 (OpT.lenR rfl tu37 hs27 rfl ?_)
 refine W1 (OpT.ieq .i64 (((S.length : Nat) : Int)) ((((RL s).length : Nat) : Int)) rfl rfl ?_)
 refine W1 (OpT.move (.bool (decide (((S.length : Nat) : Int) = (((RL s).length : Nat) : Int)))) rfl ?_)
 refine W2 (dj := 100) (bT (by rw [hfin])) (OpT.loadA ⟨pb, 0, none⟩ 1 [v] ta25 ts25 hs77 ((st74.rowB (i := 1) rfl).part 0 1) rfl ?_)
 refine W2 (dj := 100) (bT (by rw [hfin])) (OpT.move v12 hs78 ?_)
 refine W2 (dj := 100) (bT (by rw [hfin])) (OpT.callS cal15 [] [] [(.agg #[v]), v12] rfl (ca2 rfl rfl) (parted_spec st74 hL29 hL30 HB hN hoo HO hol hRL hRLl) ?_)
 rintro v316 w317 ⟨rfl, st318⟩
 refine W1 (OpT.pickT (.bool true) (bT (by rw [hfin])) rfl ?_)
 refine W1 (OpT.move (.bool true) rfl ?_)
 refine W2 (dj := 105) rfl (OpT.callS cal11 [] [] [] rfl ca0 (lives_spec st318) ?_)
 rintro v319 w320 ⟨rfl, st321⟩
 refine W1 (OpT.pickT (.bool true) rfl rfl ?_)
 refine W1 (OpT.assign (.bool true) rfl ?_)
 refine Wnt ?_
 refine WC.ret <| retQ.one (.bool true) rfl ?_
 exact ⟨_, rfl, rfl, (hx21.back (hx26.back (St.selD 2 [] rfl rfl (by decide) st321)))⟩

end Go.Ped
