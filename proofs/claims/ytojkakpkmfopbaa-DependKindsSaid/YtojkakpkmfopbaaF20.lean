/- The law of kinds: its loops. -/
import Derived.Test.YtojkakpkmfopbaaF19
set_option linter.unusedVariables false
set_option maxRecDepth 20000
namespace Go.Ped
open Go Go.Eng Go.RowKit Go.Proofs

theorem cal4 : CallOk Try.prog 4 := ⟨⟨Try.f4, Try.func4, rfl, by decide⟩⟩
theorem tp27 : placesB Try.prog 27 = some [(0, 1)] := by kernel_rfl
theorem tz27 : zeroB Try.prog 27 = some (.agg #[(.slice none 0 0)]) := by kernel_rfl
theorem cal5 : CallOk Try.prog 5 := ⟨⟨Try.f5, Try.func5, rfl, by decide⟩⟩
theorem cal7 : CallOk Try.prog 7 := ⟨⟨Try.f7, Try.func7, rfl, by decide⟩⟩
theorem cal8 : CallOk Try.prog 8 := ⟨⟨Try.f8, Try.func8, rfl, by decide⟩⟩
theorem ta4 : aggB Try.prog 4 = some false := by kernel_rfl
theorem tg47 : Try.prog.eqGuardType Try.prog.depth 47 = false := by kernel_rfl
theorem cal9 : CallOk Try.prog 9 := ⟨⟨Try.f9, Try.func9, rfl, by decide⟩⟩
theorem eqEdg (d : Nat) (w : World) (a b : Edg) : (Op.equalIn (d + 2) 47 (.agg #[.string a.frm, .string a.to, .int .i8 a.kind, .int .i64 a.rule]) (.agg #[.string b.frm, .string b.to, .int .i8 b.kind, .int .i64 b.rule])).run Try.prog w = .ok (decide (a = b)) w := by
  have h : decide (a = b) = ((a.frm.toList == b.frm.toList) && ((a.to.toList == b.to.toList) && ((a.kind == b.kind) && ((a.rule == b.rule) && true)))) := by
    rw [toList_eq_iff, toList_eq_iff, Bool.eq_iff_iff]
    simp only [decide_eq_true_eq, Bool.and_eq_true, beq_iff_eq, and_true]
    cases a; cases b; simp
  rw [h]
  refine eqs_of Try.underlying47 (by kernel_rfl) ?_
  refine eqs_cons (by decide) (run_partS ta9 rfl) (run_partS ta9 rfl) (run_equalIn_string w _ 9 _ _ (by kernel_rfl)) ?_
  refine eqs_cons (by decide) (run_partS ta9 rfl) (run_partS ta9 rfl) (run_equalIn_string w _ 9 _ _ (by kernel_rfl)) ?_
  refine eqs_cons (by decide) (run_partS ta45 rfl) (run_partS ta45 rfl) (run_equalIn_int w _ 45 .i8 .i8 _ _ (by kernel_rfl)) ?_
  exact eqs_cons (by decide) (run_partS ta3 rfl) (run_partS ta3 rfl) (run_equalIn_int w _ 3 .i64 .i64 _ _ (by kernel_rfl)) eqs_nil
def rBoo : Rl Bool where
  sz := 1
  R _ _ cs x := cs = [.bool x]
  len h := by rw [h]; rfl
  mono h _ _ := h
theorem rowsE {Z : Nat → Prop} {w0 : World} (es : List Edg) : RowsOf (rEdg.R Z w0) 4 (es.flatMap ecs) es := by
  have : ∀ (es pre : List Edg) (cs : List Value), RowsOf (rEdg.R Z w0) 4 cs pre → RowsOf (rEdg.R Z w0) 4 (cs ++ es.flatMap ecs) (pre ++ es) := by
    intro es
    induction es with
    | nil => intro pre cs h; simpa using h
    | cons e es ih =>
      intro pre cs h
      have := ih (pre ++ [e]) (cs ++ ecs e) (h.snoc rfl rfl)
      simpa using this
  simpa using this es [] [] RowsOf.nil
theorem rowsB {Z : Nat → Prop} {w0 : World} (bs : List Bool) : RowsOf (rBoo.R Z w0) 1 (bs.map Value.bool) bs := by
  refine ⟨by simp, fun i x hx => ?_⟩
  show List.take 1 (List.drop (i * 1) _) = [Value.bool x]
  rw [Nat.mul_one, List.take_one, List.head?_drop, List.getElem?_map, hx]
  rfl
theorem edgesF_app (a b : List Rul) (x : Rul) : edgesF (a ++ x :: b) = edgesF a ++ (edgesR x a.length ++ (b.zipIdx (a.length + 1)).flatMap fun p => edgesR p.1 p.2) := by
  simp [edgesF, List.zipIdx_append]
theorem edges_at {rs : List Rul} {i : Nat} {x : Rul} (hx : rs[i]? = some x) {k : Nat} {y : Ltr} (hy : (x.body.filter isAtm)[k]? = some y) : (edgesF rs)[(edgesF (rs.take i)).length + k]? = some (edgOf x.pred (kindOf x) i y) := by
  have hi := (List.getElem?_eq_some_iff.1 hx).1
  have e : rs.take i ++ x :: rs.drop (i + 1) = rs := by
    obtain ⟨h1, h2⟩ := List.getElem?_eq_some_iff.1 hx
    rw [← h2]; simp
  have e2 := edgesF_app (rs.take i) (rs.drop (i + 1)) x
  rw [e, List.length_take, Nat.min_eq_left (by omega)] at e2
  have hk : k < (edgesR x i).length := by rw [edgesR, List.length_map]; exact (List.getElem?_eq_some_iff.1 hy).1
  rw [e2, List.getElem?_append_right (by omega), Nat.add_sub_cancel_left, List.getElem?_append_left hk, edgesR, List.getElem?_map, hy]
  rfl
theorem edges_len {rs : List Rul} {i : Nat} {x : Rul} (hx : rs[i]? = some x) : (edgesF (rs.take (i + 1))).length = (edgesF (rs.take i)).length + (x.body.filter isAtm).length := by
  rw [edges_step hx, List.length_append, edgesR, List.length_map]
abbrev lat (x : Rul) (i : Int) : List Edg := (x.body.filter isAtm).map fun y => (⟨x.pred, y.atom.pred, 0, i⟩ : Edg)
abbrev lno (x : Rul) : List Bool := (x.body.filter isAtm).map fun y => decide (y.kind = 2)
theorem kinds_ok {rs : List Rul} {i : Nat} {x : Rul} (hx : rs[i]? = some x) {k : Nat} {e d : Edg} {b : Bool} (he : (lat x i)[k]? = some e) (hb : (lno x)[k]? = some b) (hd : (edgesF rs)[(edgesF (rs.take i)).length + k]? = some d) :
    d = ⟨e.frm, e.to, if b then 2 else kindOf x, e.rule⟩ := by
  rw [List.getElem?_map] at he hb
  cases hy : (x.body.filter isAtm)[k]? with
  | none => rw [hy] at he; cases he
  | some y =>
    rw [hy] at he hb
    rw [edges_at hx hy] at hd
    simp only [Option.map_some, Option.some.injEq] at he hb hd
    subst he hb hd
    simp [edgOf]
theorem len_at {rs : List Rul} {i : Nat} {x : Rul} (hx : rs[i]? = some x) {k : Nat} (hk : k < (x.body.filter isAtm).length) : (edgesF (rs.take i)).length + k < (edgesF rs).length :=
  (List.getElem?_eq_some_iff.1 (edges_at hx (List.getElem?_eq_getElem hk))).1
theorem lat_len (x : Rul) (i : Int) : (lat x i).length = (x.body.filter isAtm).length := List.length_map ..
theorem lno_len (x : Rul) : (lno x).length = (x.body.filter isAtm).length := List.length_map ..
theorem agg_step {xs : List Agr} {k : Nat} {a : Agr} (ha : xs[k]? = some a) : (xs.take (k + 1)).any (fun a => decide (a.agg ≠ 0)) = ((xs.take k).any (fun a => decide (a.agg ≠ 0)) || decide (a.agg ≠ 0)) := by
  rw [List.take_add_one, ha, List.any_append]; simp
theorem Kinds_spec {Z : Nat → Prop} {w0 w : World} {L : List Res} (st : St Z w0 w L) (v : Value) (rs : List Rul) (hv : rRul.sl Z w0 v rs) (HLV : ∀ {Z : Nat → Prop} {w0 w : World} {L : List Res}, St Z w0 w L → Calls Try.prog 9 #[] w (Ret fun r w' => r = .bool true ∧ St Z w0 w' L)) : Calls Try.prog 3 #[v] w (Ret fun r w' => r = .bool true ∧ St Z w0 w' L) := by
 have hal := Rl.sl_le hv
 refine calls_of_WC (m := 104) (rs := [.tmp 2]) Try.func3 rfl rfl rfl rfl ?_
 refine Wsr ?_
 refine W1 (OpT.assign (.bool false) rfl ?_)
 refine Wnt ?_
 refine WC.seq ?_
 refine Wsr ?_
 refine W1 (OpT.move v rfl ?_)
 refine W1 (OpT.callS cal4 [] [] [v] rfl (ca1 rfl) (BeyondRules_spec st _ _ hv) ?_)
 rintro v1 w2 ⟨rfl, st3⟩
 refine Wnt ?_
 refine WC.cond ((beyondB rs)) rfl (fun h4 => ?_) (fun h4 => ?_)
 ·refine WC.seq ?_
  refine WC.region ?_
  refine W1 (OpT.assign (.bool true) rfl ?_)
  refine Wnt ?_
  refine WC.ret <| thenQ_r <| retQ.one (.bool true) rfl ?_
  exact ⟨_, rfl, rfl, st3⟩
 have HB := Bnd.of h4
 refine WC.skip ?_
 refine thenQ_n ?_
 refine Wsr ?_
 refine W1 (OpT.move v rfl ?_)
 refine W1 (OpT.build [(0, v)] [v] tz27 tp27 (mp1 rfl) (by first | (simp [Instr.fill, Value.cells, (Rl.sl_cells hv)]; done) | simp [Instr.fill, (Rl.sl_cells hv), Value.cells.eq_2, show ∀ cs, (Value.agg cs).cells = cs from fun _ => rfl]) ?_)
 refine W1 (OpT.callS cal5 [] [] [(.agg #[v])] rfl (ca1 rfl) (Edges_spec st3 _ rs hv HB) ?_)
 rintro v11 w12 ⟨o5, c6, st13⟩
 obtain ⟨Z7, hx8, hs9, st10⟩ := St.freezeRow (r := rEdg) (xs := (edgesF rs)) st13 (by have := edgesF_len rs; have := HB.b; omega) (rowsE (edgesF rs)).2
 have hL14 := hx8.sl hv
 refine W1 (OpT.assign v11 rfl ?_)
 refine Wns ?_
 refine W1 (OpT.assign (ii 0) rfl ?_)
 refine Wnt ?_
 refine WC.seq ?_
 refine Wsr ?_
 refine W1 (OpT.assign (ii 0) rfl ?_)
 refine Wnt ?_
 refine WC.block ?_
 refine WC.loop (fun m ρ wz => ∃ (i : Nat), ∃ (Z1 : Nat → Prop), ∃ (w1 : World), m = rs.length - i ∧ i ≤ rs.length ∧ Ext Z7 w12 Z1 w1 ∧ ρ 4 = (.int .i64 ((((edgesF (rs.take i)).length : Nat) : Int))) ∧ ρ 5 = (ni i) ∧ ρ 0 = v ∧ ρ 3 = v11 ∧ St Z1 w1 wz (L)) _ ⟨0, Z7, w12, rfl, by omega, Ext.refl _ _, rfl, rfl, rfl, rfl, st10⟩ ?_
 rintro m15 ρ16 w17 ⟨i, Z1, w1, hm24, hp19, hxx, hs21, hs20, hs22, hs23, st18⟩
 have hL25 := hxx.sl hL14
 have hL26 := hxx.sl hs9
 refine WC.seq ?_
 refine Wsr ?_
 refine W1 (OpT.move (ni i) hs20 ?_)
 refine W1 (OpT.move v hs22 ?_)
 refine W1 (OpT.lenR rfl tu22 hL25 rfl ?_)
 refine W1 (OpT.ilt .i64 (((i : Nat) : Int)) (((rs.length : Nat) : Int)) rfl rfl ?_)
 refine Wnt ?_
 refine WC.condP (((i : Nat) : Int) < ((rs.length : Nat) : Int)) rfl (fun h27 => ?_) (fun h27 => ?_)
 ·refine WC.skip ?_
  refine thenQ_n ?_
  refine WC.seq ?_
  refine WC.block ?_
  refine Wsr ?_
  refine W1 (OpT.assign (.bool false) rfl ?_)
  refine Wnt ?_
  refine WC.seq ?_
  refine Wsr ?_
  refine W1 (OpT.assign (ii 0) rfl ?_)
  refine Wnt ?_
  refine WC.block ?_
  obtain ⟨rl, hrl⟩ : ∃ x, rs[i]? = some x := ⟨_, List.getElem?_eq_getElem (by omega)⟩
  have hbx := HB.at hrl
  refine WC.loop (fun m ρ wz => ∃ (k : Nat), m = rl.head.length - k ∧ k ≤ rl.head.length ∧ ρ 6 = (.bool ((rl.head.take k).any (fun a => decide (a.agg ≠ 0)))) ∧ ρ 7 = (ni k) ∧ ρ 0 = v ∧ ρ 3 = v11 ∧ ρ 4 = (.int .i64 ((((edgesF (rs.take i)).length : Nat) : Int))) ∧ ρ 5 = (ni i) ∧ St Z1 w1 wz (L)) _ ⟨0, rfl, by omega, rfl, rfl, hs22, hs23, hs21, hs20, st18⟩ ?_
  rintro m28 ρ29 w30 ⟨k, hm39, hp32, hs34, hs33, hs35, hs36, hs37, hs38, st31⟩
  refine WC.seq ?_
  refine Wsr ?_
  refine W1 (OpT.move (ni k) hs33 ?_)
  refine W1 (OpT.move v hs35 ?_)
  refine W1 (OpT.move (ni i) hs38 ?_)
  refine W1 (OpT.idxX tu22 ts31 hL25 rfl .i64 (i) rfl hrl (fun ad41 cs42 hr43 hR44 => ?_))
  have hR44c := hR44
  obtain ⟨hv45, bv46, rfl, hh47, hb48⟩ := hR44
  have hR44l := Rl.sl_le hh47
  refine W1 (OpT.field 1 ad41 (ad41.add 1) tf31_1 rfl rfl ?_)
  refine W1 (OpT.loadS (ad41.add 1) hv45 ta28 rfl (hr43.cell st31 (j := 1) rfl) ?_)
  refine W1 (OpT.lenR rfl tu28 hh47 rfl ?_)
  refine W1 (OpT.ilt .i64 (((k : Nat) : Int)) (((rl.head.length : Nat) : Int)) rfl rfl ?_)
  refine Wnt ?_
  refine WC.condP (((k : Nat) : Int) < ((rl.head.length : Nat) : Int)) rfl (fun h49 => ?_) (fun h49 => ?_)
  ·refine WC.skip ?_
   refine thenQ_n ?_
   refine WC.seq ?_
   refine WC.block ?_
   refine WC.region ?_
   refine W1 (OpT.move (.bool ((rl.head.take k).any (fun a => decide (a.agg ≠ 0)))) hs34 ?_)
   refine W1 (OpT.move (.bool ((rl.head.take k).any (fun a => decide (a.agg ≠ 0)))) rfl ?_)
   by_cases h50 : ((rl.head.take k).any (fun a => decide (a.agg ≠ 0))) = true
   ·refine WL.pass (dj := 35) (c := true) rfl rfl rfl (congrArg Value.bool h50) rfl ?_
    refine WL.pass (dj := 35) (c := true) rfl rfl rfl (congrArg Value.bool h50) rfl ?_
    refine WL.pass (dj := 35) (c := true) rfl rfl rfl (congrArg Value.bool h50) rfl ?_
    refine WL.pass (dj := 35) (c := true) rfl rfl rfl (congrArg Value.bool h50) rfl ?_
    refine WL.pass (dj := 35) (c := true) rfl rfl rfl (congrArg Value.bool h50) rfl ?_
    refine WL.pass (dj := 35) (c := true) rfl rfl rfl (congrArg Value.bool h50) rfl ?_
    refine WL.pass (dj := 35) (c := true) rfl rfl rfl (congrArg Value.bool h50) rfl ?_
    refine WL.pass (dj := 35) (c := true) rfl rfl rfl (congrArg Value.bool h50) rfl ?_
    refine WL.pass (dj := 35) (c := true) rfl rfl rfl (congrArg Value.bool h50) rfl ?_
    refine WL.pass (dj := 35) (c := true) rfl rfl rfl (congrArg Value.bool h50) rfl ?_
    refine W1 (OpT.pickT (.bool true) (congrArg Value.bool h50) rfl ?_)
    refine W1 (OpT.assign (.bool true) rfl ?_)
    refine WL.nil ?_
    refine blkQ_n ?_
    refine thenQ_n ?_
    refine WC.region ?_
    refine W1 (OpT.move (ni k) hs33 ?_)
    refine W1 (OpT.iadd .i64 (((k : Nat) : Int)) (1) (((k + 1 : Nat) : Int)) rfl rfl (wadd (a := k) (b := 1) (by omega)) ?_)
    refine W1 (OpT.assign (ni (k + 1)) rfl ?_)
    refine WL.nil ?_
    obtain ⟨x51, hx52⟩ : ∃ a, rl.head[k]? = some a := ⟨_, List.getElem?_eq_getElem (by omega)⟩
    have e53 : ((rl.head.take (k + 1)).any (fun a => decide (a.agg ≠ 0))) = true := by rw [agg_step hx52, h50]; rfl
    exact loopQ_n _ (by omega) ⟨k + 1, rfl, by omega, ((congrArg Value.bool e53.symm)), rfl, hs35, hs36, hs37, hs38, st31⟩
   have h50 := Bool.eq_false_iff.2 h50
   refine W2 (dj := 35) (congrArg Value.bool h50) (OpT.move v hs35 ?_)
   refine W2 (dj := 35) (congrArg Value.bool h50) (OpT.move (ni i) hs38 ?_)
   refine W2 (dj := 35) (congrArg Value.bool h50) (OpT.idxX tu22 ts31 hL25 rfl .i64 (i) rfl hrl (fun ad55 cs56 hr57 hR58 => ?_))
   have hR58c := hR58
   obtain ⟨hv59, bv60, rfl, hh61, hb62⟩ := hR58
   have hR58l := Rl.sl_le hh61
   refine W2 (dj := 35) (congrArg Value.bool h50) (OpT.field 1 ad55 (ad55.add 1) tf31_1 rfl rfl ?_)
   refine W2 (dj := 35) (congrArg Value.bool h50) (OpT.loadS (ad55.add 1) hv59 ta28 rfl (hr57.cell st31 (j := 1) rfl) ?_)
   refine W2 (dj := 35) (congrArg Value.bool h50) (OpT.move (ni k) hs33 ?_)
   obtain ⟨x63, hx63⟩ : ∃ x, (rl.head)[k]? = some x := ⟨_, List.getElem?_eq_getElem (by omega)⟩
   refine W2 (dj := 35) (congrArg Value.bool h50) (OpT.idxX tu28 ts40 hh61 rfl .i64 (k) rfl hx63 (fun ad64 cs65 hr66 hR67 => ?_))
   have hR67c := hR67
   obtain rfl := hR67
   refine W2 (dj := 35) (congrArg Value.bool h50) (OpT.field 0 ad64 ad64 tf40_0 rfl rfl ?_)
   refine W2 (dj := 35) (congrArg Value.bool h50) (OpT.loadS ad64 (.int .i8 (x63.agg)) ta33 rfl (hr66.cell st31 (j := 0) rfl) ?_)
   refine W2 (dj := 35) (congrArg Value.bool h50) (OpT.ine .i8 (x63.agg) (0) rfl rfl ?_)
   refine W1 (OpT.pickF (.bool (decide (x63.agg ≠ 0))) (congrArg Value.bool h50) rfl ?_)
   refine W1 (OpT.assign (.bool (decide (x63.agg ≠ 0))) rfl ?_)
   refine WL.nil ?_
   refine blkQ_n ?_
   refine thenQ_n ?_
   refine WC.region ?_
   refine W1 (OpT.move (ni k) hs33 ?_)
   refine W1 (OpT.iadd .i64 (((k : Nat) : Int)) (1) (((k + 1 : Nat) : Int)) rfl rfl (wadd (a := k) (b := 1) (by omega)) ?_)
   refine W1 (OpT.assign (ni (k + 1)) rfl ?_)
   refine WL.nil ?_
   have e68 : ((rl.head.take (k + 1)).any (fun a => decide (a.agg ≠ 0))) = (decide (x63.agg ≠ 0)) := by rw [agg_step hx63, h50]; rfl
   exact loopQ_n _ (by omega) ⟨k + 1, rfl, by omega, ((congrArg Value.bool e68.symm)), rfl, hs35, hs36, hs37, hs38, st31⟩
  refine WC.exit ?_
  refine thenQ_x ?_
  refine loopQ_x ?_
  refine blkQ_hit ?_
  refine thenQ_n ?_
  refine Wsr ?_
  refine W1 (OpT.move v hs35 ?_)
  refine W1 (OpT.move (ni i) hs38 ?_)
  refine W1 (OpT.idxX tu22 ts31 hL25 rfl .i64 (i) rfl hrl (fun ad70 cs71 hr72 hR73 => ?_))
  have hR73c := hR73
  obtain ⟨hv74, bv75, rfl, hh76, hb77⟩ := hR73
  have hR73l := Rl.sl_le hh76
  refine W1 (OpT.loadA ad70 3 [(.string rl.pred), hv74, bv75] ta31 ts31 rfl ((hr72.at st31).part 0 3) rfl ?_)
  refine W1 (OpT.callS cal6 [] [] [(.agg #[(.string rl.pred), hv74, bv75])] rfl (ca1 rfl) (Makes_spec st31 rl (by omega) _ _ hh76 hb77) ?_)
  rintro v78 w79 ⟨rfl, st80⟩
  refine W1 (OpT.assign (.bool (makesB rl)) rfl ?_)
  refine Wns ?_
  refine W1 (OpT.move v hs35 ?_)
  refine W1 (OpT.move (ni i) hs38 ?_)
  refine W1 (OpT.idxX tu22 ts31 hL25 rfl .i64 (i) rfl hrl (fun ad82 cs83 hr84 hR85 => ?_))
  have hR85c := hR85
  obtain ⟨hv86, bv87, rfl, hh88, hb89⟩ := hR85
  have hR85l := Rl.sl_le hh88
  refine W1 (OpT.loadA ad82 3 [(.string rl.pred), hv86, bv87] ta31 ts31 rfl ((hr84.at st80).part 0 3) rfl ?_)
  refine W1 (OpT.move (ni i) hs38 ?_)
  refine W1 (OpT.callS cal7 [] [] [(.agg #[(.string rl.pred), hv86, bv87]), (ni i)] rfl (ca2 rfl rfl) (latoms_spec st80 rl ((i : Nat) : Int) _ _ hh88 hb89 (by omega)) ?_)
  rintro v96 w97 st98
  obtain ⟨Z92, hx93, hs94, st95⟩ := St.freezeRow (r := rEdg) (xs := (lat rl ((i : Nat) : Int))) st98 (by rw [lat_len]; have := List.length_filter_le isAtm rl.body; omega) (rowsE (lat rl ((i : Nat) : Int))).2
  have hL99 := hx93.sl hL25
  have hL100 := hx93.sl hL26
  have hL101 := hx93.sl hh88
  have hL102 := hx93.sl hb89
  refine W1 (OpT.assign v96 rfl ?_)
  refine Wns ?_
  refine W1 (OpT.move v hs35 ?_)
  refine W1 (OpT.move (ni i) hs38 ?_)
  refine W1 (OpT.idxX tu22 ts31 hL99 rfl .i64 (i) rfl hrl (fun ad104 cs105 hr106 hR107 => ?_))
  have hR107c := hR107
  obtain ⟨hv108, bv109, rfl, hh110, hb111⟩ := hR107
  have hR107l := Rl.sl_le hh110
  refine W1 (OpT.loadA ad104 3 [(.string rl.pred), hv108, bv109] ta31 ts31 rfl ((hr106.at st95).part 0 3) rfl ?_)
  refine W1 (OpT.callS cal8 [] [] [(.agg #[(.string rl.pred), hv108, bv109])] rfl (ca1 rfl) (lnots_spec st95 rl _ _ hh110 hb111 (by omega)) ?_)
  rintro v118 w119 st120
  obtain ⟨Z114, hx115, hs116, st117⟩ := St.freezeRow (r := rBoo) (xs := (lno rl)) st120 (by rw [lno_len]; have := List.length_filter_le isAtm rl.body; omega) (rowsB (lno rl)).2
  have hL121 := hx115.sl hL99
  have hL122 := hx115.sl hL100
  have hL123 := hx115.sl hs94
  have hL124 := hx115.sl hh110
  have hL125 := hx115.sl hb111
  refine W1 (OpT.assign v118 rfl ?_)
  refine Wns ?_
  refine W1 (OpT.assign (ii 0) rfl ?_)
  refine Wnt ?_
  refine WC.block ?_
  have eA : ((rl.head.take k).any (fun a => decide (a.agg ≠ 0))) = aggsB rl := by rw [List.take_of_length_le (by omega)]; rfl
  rw [eA] at hs34
  have hLl := lat_len rl ((i : Nat) : Int)
  have hLn := lno_len rl
  have hEb : (edgesF rs).length < 1048576 := Nat.lt_of_le_of_lt (edgesF_len rs) HB.b
  refine WC.loop (fun m ρ wz => ∃ (j : Nat), m = (lat rl ((i : Nat) : Int)).length - j ∧ j ≤ (lat rl ((i : Nat) : Int)).length ∧ ρ 4 = (.int .i64 ((((edgesF (rs.take i)).length + j : Nat) : Int))) ∧ ρ 11 = (ni j) ∧ ρ 0 = v ∧ ρ 3 = v11 ∧ ρ 5 = (ni i) ∧ ρ 6 = (.bool (aggsB rl)) ∧ ρ 8 = (.bool (makesB rl)) ∧ ρ 9 = v96 ∧ ρ 10 = v118 ∧ St Z114 w119 wz (L)) _ ⟨0, rfl, by omega, hs37, rfl, hs35, hs36, hs38, hs34, rfl, rfl, rfl, st117⟩ ?_
  rintro m126 ρ127 w128 ⟨j, hm140, hp130, hs132, hs131, hs133, hs134, hs135, hs136, hs137, hs138, hs139, st129⟩
  refine WC.seq ?_
  refine Wsr ?_
  refine W1 (OpT.move (ni j) hs131 ?_)
  refine W1 (OpT.move v96 hs138 ?_)
  refine W1 (OpT.lenR rfl tu24 hL123 rfl ?_)
  refine W1 (OpT.ilt .i64 (((j : Nat) : Int)) ((((lat rl ((i : Nat) : Int)).length : Nat) : Int)) rfl rfl ?_)
  refine Wnt ?_
  refine WC.condP (((j : Nat) : Int) < (((lat rl ((i : Nat) : Int)).length : Nat) : Int)) rfl (fun h141 => ?_) (fun h141 => ?_)
  ·refine WC.skip ?_
   refine thenQ_n ?_
   refine WC.seq ?_
   refine WC.block ?_
   refine Wsr ?_
   refine W1 (OpT.move v96 hs138 ?_)
   refine W1 (OpT.move (ni j) hs131 ?_)
   obtain ⟨x142, hx142⟩ : ∃ x, ((lat rl ((i : Nat) : Int)))[j]? = some x := ⟨_, List.getElem?_eq_getElem (by omega)⟩
   refine W1 (OpT.idxX tu24 ts47 hL123 rfl .i64 (j) rfl hx142 (fun ad143 cs144 hr145 hR146 => ?_))
   have hR146c := hR146
   obtain rfl := hR146
   refine W1 (OpT.loadA ad143 4 [(.string x142.frm), (.string x142.to), (.int .i8 (x142.kind)), (.int .i64 (x142.rule))] ta47 ts47 rfl ((hr145.at st129).part 0 4) rfl ?_)
   refine W1 (OpT.alloc st129 (.agg #[ve, ve, (.int .i8 (0)), (ii 0)]) [ve, ve, (.int .i8 (0)), (ii 0)] tz47 rfl (fun b147 w148 st149 => ?_))
   refine WL.stepN (OpT.storeA st149 0 4 [(.string x142.frm), (.string x142.to), (.int .i8 (x142.kind)), (.int .i64 (x142.rule))] rfl ts47 rfl rfl rfl rfl rfl (fun w150 st151 => ?_))
   refine Wns ?_
   refine W1 (OpT.field 2 ⟨b147, 0, none⟩ ⟨b147, 2, none⟩ tf47_2 rfl rfl ?_)
   refine WL.stepN (OpT.storeS st151 0 (.int .i8 (1)) rfl ts45 rfl rfl rfl rfl rfl (fun w152 st153 => ?_))
   refine Wnt ?_
   refine WC.seq ?_
   refine Wsr ?_
   refine W1 (OpT.move (.bool (makesB rl)) hs137 ?_)
   refine Wnt ?_
   refine WC.cond ((makesB rl)) rfl (fun h154 => ?_) (fun h154 => ?_)
   ·refine WC.region ?_
    refine W1 (OpT.field 2 ⟨b147, 0, none⟩ ⟨b147, 2, none⟩ tf47_2 rfl rfl ?_)
    refine WL.stepN (OpT.storeS st153 0 (.int .i8 (4)) rfl ts45 rfl rfl rfl rfl rfl (fun w155 st156 => ?_))
    refine Wnt ?_
    refine WC.seq ?_
    refine Wsr ?_
    refine W1 (OpT.move (.bool (aggsB rl)) hs136 ?_)
    refine Wnt ?_
    refine WC.cond ((aggsB rl)) rfl (fun h157 => ?_) (fun h157 => ?_)
    ·refine WC.region ?_
     refine W1 (OpT.field 2 ⟨b147, 0, none⟩ ⟨b147, 2, none⟩ tf47_2 rfl rfl ?_)
     refine WL.stepN (OpT.storeS st156 0 (.int .i8 (3)) rfl ts45 rfl rfl rfl rfl rfl (fun w158 st159 => ?_))
     refine Wnt ?_
     refine WC.seq ?_
     refine Wsr ?_
     refine W1 (OpT.move v118 hs139 ?_)
     refine W1 (OpT.move (ni j) hs131 ?_)
     obtain ⟨x160, hx160⟩ : ∃ x, ((lno rl))[j]? = some x := ⟨_, List.getElem?_eq_getElem (by omega)⟩
     refine W1 (OpT.idxX tu43 ts4 hs116 rfl .i64 (j) rfl hx160 (fun ad161 cs162 hr163 hR164 => ?_))
     have hR164c := hR164
     obtain rfl := hR164
     refine W1 (OpT.loadS ad161 (.bool x160) ta4 rfl (hr163.cell st159 (j := 0) rfl) ?_)
     refine Wnt ?_
     refine WC.cond (x160) rfl (fun h165 => ?_) (fun h165 => ?_)
     ·refine WC.region ?_
      refine W1 (OpT.field 2 ⟨b147, 0, none⟩ ⟨b147, 2, none⟩ tf47_2 rfl rfl ?_)
      refine WL.stepN (OpT.storeS st159 0 (.int .i8 (2)) rfl ts45 rfl rfl rfl rfl rfl (fun w166 st167 => ?_))
      refine Wnt ?_
      refine WC.seq ?_
      refine WC.seq ?_
      have hLa := len_at hrl (k := j) (by omega)
      by_cases h168 : (((edgesF rs).length : Nat) : Int) ≤ (((edgesF (rs.take i)).length + j : Nat) : Int)
      ·refine WC.draw 12 (fun jj vv => match jj with | 0 => vv = (.int .i64 ((((edgesF (rs.take i)).length + j : Nat) : Int))) | 1 => vv = v11 | 2 => vv = (.int .i64 ((((edgesF rs).length : Nat) : Int))) | 3 => vv = (.bool (decide ((((edgesF rs).length : Nat) : Int) ≤ (((edgesF (rs.take i)).length + j : Nat) : Int)))) | 4 => vv = (.bool (decide ((((edgesF rs).length : Nat) : Int) ≤ (((edgesF (rs.take i)).length + j : Nat) : Int)))) | 5 => vv = undef | 6 => vv = undef | 7 => vv = undef | 8 => vv = undef | 9 => vv = undef | 10 => vv = undef | 11 => vv = (.bool true) | _ => True) (fun _ _ => []) st167 fmix (by kernel_rfl) ((obS (obS (obS (obS (obS (obS (obS (obS (obS (obS (obS (obS ob0 ?_) ?_) ?_) ?_) ?_) ?_) ?_) ?_) ?_) ?_) ?_) ?_)) ?_
       ·intro vals ρ w170 X hd h0 st169
        have e171 : ρ 4 = (.int .i64 ((((edgesF (rs.take i)).length + j : Nat) : Int))) := (h0 4 rfl).trans hs132
        refine W1 (OpT.move (.int .i64 ((((edgesF (rs.take i)).length + j : Nat) : Int))) e171 ?_)
        refine WL.nil ?_
        exact oneQ.mk ⟨rfl, st169⟩
       ·intro vals ρ w173 X hd h0 st172
        have e174 : ρ 3 = v11 := (h0 3 rfl).trans hs134
        refine W1 (OpT.move v11 e174 ?_)
        refine WL.nil ?_
        exact oneQ.mk ⟨rfl, st172⟩
       ·intro vals ρ w176 X hd h0 st175
        have e177 : ρ 84 = v11 := ((hd 1 rfl).2 84 rfl).trans (hd 1 rfl).1
        refine W1 (OpT.lenR rfl tu24 hL122 e177 ?_)
        refine WL.nil ?_
        exact oneQ.mk ⟨rfl, st175⟩
       ·intro vals ρ w179 X hd h0 st178
        have e180 : ρ 83 = (.int .i64 ((((edgesF (rs.take i)).length + j : Nat) : Int))) := ((hd 0 rfl).2 83 rfl).trans (hd 0 rfl).1
        have e181 : ρ 85 = (.int .i64 ((((edgesF rs).length : Nat) : Int))) := ((hd 2 rfl).2 85 rfl).trans (hd 2 rfl).1
        refine W1 (OpT.ige .i64 ((((edgesF (rs.take i)).length + j : Nat) : Int)) ((((edgesF rs).length : Nat) : Int)) e180 e181 ?_)
        refine WL.nil ?_
        exact oneQ.mk ⟨rfl, st178⟩
       ·intro vals ρ w183 X hd h0 st182
        have e184 : ρ 86 = (.bool (decide ((((edgesF rs).length : Nat) : Int) ≤ (((edgesF (rs.take i)).length + j : Nat) : Int)))) := ((hd 3 rfl).2 86 rfl).trans (hd 3 rfl).1
        refine W1 (OpT.move (.bool (decide ((((edgesF rs).length : Nat) : Int) ≤ (((edgesF (rs.take i)).length + j : Nat) : Int)))) e184 ?_)
        refine WL.nil ?_
        exact oneQ.mk ⟨rfl, st182⟩
       ·intro vals ρ w186 X hd h0 st185
        have e187 : ρ 3 = v11 := (h0 3 rfl).trans hs134
        have e188 : ρ 87 = (.bool (decide ((((edgesF rs).length : Nat) : Int) ≤ (((edgesF (rs.take i)).length + j : Nat) : Int)))) := ((hd 4 rfl).2 87 rfl).trans (hd 4 rfl).1
        refine WL.pass (dj := 87) (c := true) rfl rfl rfl (e188.trans (bT h168)) rfl ?_
        refine WL.nil ?_
        exact oneQ.mk ⟨rfl, st185⟩
       ·intro vals ρ w190 X hd h0 st189
        have e191 : ρ 4 = (.int .i64 ((((edgesF (rs.take i)).length + j : Nat) : Int))) := (h0 4 rfl).trans hs132
        have e192 : ρ 87 = (.bool (decide ((((edgesF rs).length : Nat) : Int) ≤ (((edgesF (rs.take i)).length + j : Nat) : Int)))) := ((hd 4 rfl).2 87 rfl).trans (hd 4 rfl).1
        refine WL.pass (dj := 87) (c := true) rfl rfl rfl (e192.trans (bT h168)) rfl ?_
        refine WL.nil ?_
        exact oneQ.mk ⟨rfl, st189⟩
       ·intro vals ρ w194 X hd h0 st193
        have e195 : ρ 87 = (.bool (decide ((((edgesF rs).length : Nat) : Int) ≤ (((edgesF (rs.take i)).length + j : Nat) : Int)))) := ((hd 4 rfl).2 87 rfl).trans (hd 4 rfl).1
        have e196 : ρ 88 = undef := ((hd 5 rfl).2 88 rfl).trans (hd 5 rfl).1
        have e197 : ρ 89 = undef := ((hd 6 rfl).2 89 rfl).trans (hd 6 rfl).1
        refine WL.pass (dj := 87) (c := true) rfl rfl rfl (e195.trans (bT h168)) rfl ?_
        refine WL.nil ?_
        exact oneQ.mk ⟨rfl, st193⟩
       ·intro vals ρ w199 X hd h0 st198
        have e200 : ρ 87 = (.bool (decide ((((edgesF rs).length : Nat) : Int) ≤ (((edgesF (rs.take i)).length + j : Nat) : Int)))) := ((hd 4 rfl).2 87 rfl).trans (hd 4 rfl).1
        have e201 : ρ 90 = undef := ((hd 7 rfl).2 90 rfl).trans (hd 7 rfl).1
        refine WL.pass (dj := 87) (c := true) rfl rfl rfl (e200.trans (bT h168)) rfl ?_
        refine WL.nil ?_
        exact oneQ.mk ⟨rfl, st198⟩
       ·intro vals ρ w203 X hd h0 st202
        have e204 : ρ 12 = (pt b147 0) := (h0 12 rfl).trans rfl
        have e205 : ρ 87 = (.bool (decide ((((edgesF rs).length : Nat) : Int) ≤ (((edgesF (rs.take i)).length + j : Nat) : Int)))) := ((hd 4 rfl).2 87 rfl).trans (hd 4 rfl).1
        refine WL.pass (dj := 87) (c := true) rfl rfl rfl (e205.trans (bT h168)) rfl ?_
        refine WL.nil ?_
        exact oneQ.mk ⟨rfl, st202⟩
       ·intro vals ρ w207 X hd h0 st206
        have e208 : ρ 87 = (.bool (decide ((((edgesF rs).length : Nat) : Int) ≤ (((edgesF (rs.take i)).length + j : Nat) : Int)))) := ((hd 4 rfl).2 87 rfl).trans (hd 4 rfl).1
        have e209 : ρ 91 = undef := ((hd 8 rfl).2 91 rfl).trans (hd 8 rfl).1
        have e210 : ρ 92 = undef := ((hd 9 rfl).2 92 rfl).trans (hd 9 rfl).1
        refine WL.pass (dj := 87) (c := true) rfl rfl rfl (e208.trans (bT h168)) rfl ?_
        refine WL.nil ?_
        exact oneQ.mk ⟨rfl, st206⟩
       ·intro vals ρ w212 X hd h0 st211
        have e213 : ρ 87 = (.bool (decide ((((edgesF rs).length : Nat) : Int) ≤ (((edgesF (rs.take i)).length + j : Nat) : Int)))) := ((hd 4 rfl).2 87 rfl).trans (hd 4 rfl).1
        have e214 : ρ 93 = undef := ((hd 10 rfl).2 93 rfl).trans (hd 10 rfl).1
        refine W1 (OpT.pickT (.bool true) (e213.trans (bT h168)) rfl ?_)
        refine WL.nil ?_
        exact oneQ.mk ⟨rfl, st211⟩
       intro vals ρ217 w216 hv h0 st215
       replace st215 : St Z114 w119 w216 (Blk b147 47 [(.string x142.frm), (.string x142.to), (.int .i8 (2)), (.int .i64 (x142.rule))] :: L) := st215
       have e218 : ρ217 0 = v := (h0 0 rfl).trans hs133
       have e219 : ρ217 3 = v11 := (h0 3 rfl).trans hs134
       have e220 : ρ217 4 = (.int .i64 ((((edgesF (rs.take i)).length + j : Nat) : Int))) := (h0 4 rfl).trans hs132
       have e221 : ρ217 5 = (ni i) := (h0 5 rfl).trans hs135
       have e222 : ρ217 6 = (.bool (aggsB rl)) := (h0 6 rfl).trans hs136
       have e223 : ρ217 8 = (.bool (makesB rl)) := (h0 8 rfl).trans hs137
       have e224 : ρ217 9 = v96 := (h0 9 rfl).trans hs138
       have e225 : ρ217 10 = v118 := (h0 10 rfl).trans hs139
       have e226 : ρ217 11 = (ni j) := (h0 11 rfl).trans hs131
       have e227 : ρ217 94 = (.bool true) := ((hv 11 rfl).2 94 rfl).trans (hv 11 rfl).1
       clear hv h0
       refine Wnt ?_
       refine WC.condT e227 ?_
       refine Wsr ?_
       refine W1 (OpT.assign (.bool false) rfl ?_)
       refine Wnt ?_
       refine WC.ret <| thenQ_r <| blkQ_r <| thenQ_r <| loopQ_r <| blkQ_r <| blkQ_r <| thenQ_r <| loopQ_r <| blkQ_r <| thenQ_r <| retQ.one (.bool false) rfl ?_
       exfalso
       omega
      obtain ⟨xq1, hxq1⟩ : ∃ x, ((edgesF rs))[(edgesF (rs.take i)).length + j]? = some x := ⟨_, List.getElem?_eq_getElem (by omega)⟩
      obtain ⟨adq1, csq1, hEq1, hrq1, hRq1⟩ := Rl.sl_el hL122 hxq1
      have hRq1c := hRq1
      obtain rfl := hRq1
      refine WC.draw 12 (fun jj vv => match jj with | 0 => vv = (.int .i64 ((((edgesF (rs.take i)).length + j : Nat) : Int))) | 1 => vv = v11 | 2 => vv = (.int .i64 ((((edgesF rs).length : Nat) : Int))) | 3 => vv = (.bool (decide ((((edgesF rs).length : Nat) : Int) ≤ (((edgesF (rs.take i)).length + j : Nat) : Int)))) | 4 => vv = (.bool (decide ((((edgesF rs).length : Nat) : Int) ≤ (((edgesF (rs.take i)).length + j : Nat) : Int)))) | 5 => vv = v11 | 6 => vv = (.int .i64 ((((edgesF (rs.take i)).length + j : Nat) : Int))) | 7 => vv = (.pointer (some adq1)) | 8 => vv = (.agg #[(.string xq1.frm), (.string xq1.to), (.int .i8 (xq1.kind)), (.int .i64 (xq1.rule))]) | 9 => vv = (.agg #[(.string x142.frm), (.string x142.to), (.int .i8 (2)), (.int .i64 (x142.rule))]) | 10 => vv = (.bool (!decide ((⟨xq1.frm, xq1.to, xq1.kind, xq1.rule⟩ : Edg) = (⟨x142.frm, x142.to, 2, x142.rule⟩ : Edg)))) | 11 => vv = (.bool (!decide ((⟨xq1.frm, xq1.to, xq1.kind, xq1.rule⟩ : Edg) = (⟨x142.frm, x142.to, 2, x142.rule⟩ : Edg)))) | _ => True) (fun _ _ => []) st167 fmix (by kernel_rfl) ((obS (obS (obS (obS (obS (obS (obS (obS (obS (obS (obS (obS ob0 ?_) ?_) ?_) ?_) ?_) ?_) ?_) ?_) ?_) ?_) ?_) ?_)) ?_
      ·intro vals ρ w229 X hd h0 st228
       have e230 : ρ 4 = (.int .i64 ((((edgesF (rs.take i)).length + j : Nat) : Int))) := (h0 4 rfl).trans hs132
       refine W1 (OpT.move (.int .i64 ((((edgesF (rs.take i)).length + j : Nat) : Int))) e230 ?_)
       refine WL.nil ?_
       exact oneQ.mk ⟨rfl, st228⟩
      ·intro vals ρ w232 X hd h0 st231
       have e233 : ρ 3 = v11 := (h0 3 rfl).trans hs134
       refine W1 (OpT.move v11 e233 ?_)
       refine WL.nil ?_
       exact oneQ.mk ⟨rfl, st231⟩
      ·intro vals ρ w235 X hd h0 st234
       have e236 : ρ 84 = v11 := ((hd 1 rfl).2 84 rfl).trans (hd 1 rfl).1
       refine W1 (OpT.lenR rfl tu24 hL122 e236 ?_)
       refine WL.nil ?_
       exact oneQ.mk ⟨rfl, st234⟩
      ·intro vals ρ w238 X hd h0 st237
       have e239 : ρ 83 = (.int .i64 ((((edgesF (rs.take i)).length + j : Nat) : Int))) := ((hd 0 rfl).2 83 rfl).trans (hd 0 rfl).1
       have e240 : ρ 85 = (.int .i64 ((((edgesF rs).length : Nat) : Int))) := ((hd 2 rfl).2 85 rfl).trans (hd 2 rfl).1
       refine W1 (OpT.ige .i64 ((((edgesF (rs.take i)).length + j : Nat) : Int)) ((((edgesF rs).length : Nat) : Int)) e239 e240 ?_)
       refine WL.nil ?_
       exact oneQ.mk ⟨rfl, st237⟩
      ·intro vals ρ w242 X hd h0 st241
       have e243 : ρ 86 = (.bool (decide ((((edgesF rs).length : Nat) : Int) ≤ (((edgesF (rs.take i)).length + j : Nat) : Int)))) := ((hd 3 rfl).2 86 rfl).trans (hd 3 rfl).1
       refine W1 (OpT.move (.bool (decide ((((edgesF rs).length : Nat) : Int) ≤ (((edgesF (rs.take i)).length + j : Nat) : Int)))) e243 ?_)
       refine WL.nil ?_
       exact oneQ.mk ⟨rfl, st241⟩
      ·intro vals ρ w245 X hd h0 st244
       have e246 : ρ 3 = v11 := (h0 3 rfl).trans hs134
       have e247 : ρ 87 = (.bool (decide ((((edgesF rs).length : Nat) : Int) ≤ (((edgesF (rs.take i)).length + j : Nat) : Int)))) := ((hd 4 rfl).2 87 rfl).trans (hd 4 rfl).1
       refine W2 (dj := 87) (e247.trans (bF h168)) (OpT.move v11 e246 ?_)
       refine WL.nil ?_
       exact oneQ.mk ⟨rfl, st244⟩
      ·intro vals ρ w249 X hd h0 st248
       have e250 : ρ 4 = (.int .i64 ((((edgesF (rs.take i)).length + j : Nat) : Int))) := (h0 4 rfl).trans hs132
       have e251 : ρ 87 = (.bool (decide ((((edgesF rs).length : Nat) : Int) ≤ (((edgesF (rs.take i)).length + j : Nat) : Int)))) := ((hd 4 rfl).2 87 rfl).trans (hd 4 rfl).1
       refine W2 (dj := 87) (e251.trans (bF h168)) (OpT.move (.int .i64 ((((edgesF (rs.take i)).length + j : Nat) : Int))) e250 ?_)
       refine WL.nil ?_
       exact oneQ.mk ⟨rfl, st248⟩
      ·intro vals ρ w253 X hd h0 st252
       have e254 : ρ 87 = (.bool (decide ((((edgesF rs).length : Nat) : Int) ≤ (((edgesF (rs.take i)).length + j : Nat) : Int)))) := ((hd 4 rfl).2 87 rfl).trans (hd 4 rfl).1
       have e255 : ρ 88 = v11 := ((hd 5 rfl).2 88 rfl).trans (hd 5 rfl).1
       have e256 : ρ 89 = (.int .i64 ((((edgesF (rs.take i)).length + j : Nat) : Int))) := ((hd 6 rfl).2 89 rfl).trans (hd 6 rfl).1
       refine W2 (dj := 87) (e254.trans (bF h168)) (OpT.idxE tu24 ts47 e255 .i64 ((edgesF (rs.take i)).length + j) e256 hEq1 ?_)
       refine WL.nil ?_
       exact oneQ.mk ⟨rfl, st252⟩
      ·intro vals ρ w263 X hd h0 st262
       have e264 : ρ 87 = (.bool (decide ((((edgesF rs).length : Nat) : Int) ≤ (((edgesF (rs.take i)).length + j : Nat) : Int)))) := ((hd 4 rfl).2 87 rfl).trans (hd 4 rfl).1
       have e265 : ρ 90 = (.pointer (some adq1)) := ((hd 7 rfl).2 90 rfl).trans (hd 7 rfl).1
       refine W2 (dj := 87) (e264.trans (bF h168)) (OpT.loadA adq1 4 [(.string xq1.frm), (.string xq1.to), (.int .i8 (xq1.kind)), (.int .i64 (xq1.rule))] ta47 ts47 e265 ((hrq1.at st262).part 0 4) rfl ?_)
       refine WL.nil ?_
       exact oneQ.mk ⟨rfl, st262⟩
      ·intro vals ρ w267 X hd h0 st266
       have e268 : ρ 12 = (pt b147 0) := (h0 12 rfl).trans rfl
       have e269 : ρ 87 = (.bool (decide ((((edgesF rs).length : Nat) : Int) ≤ (((edgesF (rs.take i)).length + j : Nat) : Int)))) := ((hd 4 rfl).2 87 rfl).trans (hd 4 rfl).1
       refine W2 (dj := 87) (e269.trans (bF h168)) (OpT.loadA ⟨b147, 0, none⟩ 4 [(.string x142.frm), (.string x142.to), (.int .i8 (2)), (.int .i64 (x142.rule))] ta47 ts47 e268 ((st266.rowB (i := 0) rfl).part 0 4) rfl ?_)
       refine WL.nil ?_
       exact oneQ.mk ⟨rfl, st266⟩
      ·intro vals ρ w271 X hd h0 st270
       have e272 : ρ 87 = (.bool (decide ((((edgesF rs).length : Nat) : Int) ≤ (((edgesF (rs.take i)).length + j : Nat) : Int)))) := ((hd 4 rfl).2 87 rfl).trans (hd 4 rfl).1
       have e273 : ρ 91 = (.agg #[(.string xq1.frm), (.string xq1.to), (.int .i8 (xq1.kind)), (.int .i64 (xq1.rule))]) := ((hd 8 rfl).2 91 rfl).trans (hd 8 rfl).1
       have e274 : ρ 92 = (.agg #[(.string x142.frm), (.string x142.to), (.int .i8 (2)), (.int .i64 (x142.rule))]) := ((hd 9 rfl).2 92 rfl).trans (hd 9 rfl).1
       refine W2 (dj := 87) (e272.trans (bF h168)) (OpT.aggNe [(.string xq1.frm), (.string xq1.to), (.int .i8 (xq1.kind)), (.int .i64 (xq1.rule))] [(.string x142.frm), (.string x142.to), (.int .i8 (2)), (.int .i64 (x142.rule))] (decide ((⟨xq1.frm, xq1.to, xq1.kind, xq1.rule⟩ : Edg) = (⟨x142.frm, x142.to, 2, x142.rule⟩ : Edg))) tg47 (fun w => eqEdg 9998 w (⟨xq1.frm, xq1.to, xq1.kind, xq1.rule⟩ : Edg) (⟨x142.frm, x142.to, 2, x142.rule⟩ : Edg)) e273 e274 ?_)
       refine WL.nil ?_
       exact oneQ.mk ⟨rfl, st270⟩
      ·intro vals ρ w276 X hd h0 st275
       have e277 : ρ 87 = (.bool (decide ((((edgesF rs).length : Nat) : Int) ≤ (((edgesF (rs.take i)).length + j : Nat) : Int)))) := ((hd 4 rfl).2 87 rfl).trans (hd 4 rfl).1
       have e278 : ρ 93 = (.bool (!decide ((⟨xq1.frm, xq1.to, xq1.kind, xq1.rule⟩ : Edg) = (⟨x142.frm, x142.to, 2, x142.rule⟩ : Edg)))) := ((hd 10 rfl).2 93 rfl).trans (hd 10 rfl).1
       refine W1 (OpT.pickF (.bool (!decide ((⟨xq1.frm, xq1.to, xq1.kind, xq1.rule⟩ : Edg) = (⟨x142.frm, x142.to, 2, x142.rule⟩ : Edg)))) (e277.trans (bF h168)) e278 ?_)
       refine WL.nil ?_
       exact oneQ.mk ⟨rfl, st275⟩
      intro vals ρ281 w280 hv h0 st279
      replace st279 : St Z114 w119 w280 (Blk b147 47 [(.string x142.frm), (.string x142.to), (.int .i8 (2)), (.int .i64 (x142.rule))] :: L) := st279
      have e282 : ρ281 0 = v := (h0 0 rfl).trans hs133
      have e283 : ρ281 3 = v11 := (h0 3 rfl).trans hs134
      have e284 : ρ281 4 = (.int .i64 ((((edgesF (rs.take i)).length + j : Nat) : Int))) := (h0 4 rfl).trans hs132
      have e285 : ρ281 5 = (ni i) := (h0 5 rfl).trans hs135
      have e286 : ρ281 6 = (.bool (aggsB rl)) := (h0 6 rfl).trans hs136
      have e287 : ρ281 8 = (.bool (makesB rl)) := (h0 8 rfl).trans hs137
      have e288 : ρ281 9 = v96 := (h0 9 rfl).trans hs138
      have e289 : ρ281 10 = v118 := (h0 10 rfl).trans hs139
      have e290 : ρ281 11 = (ni j) := (h0 11 rfl).trans hs131
      have e291 : ρ281 94 = (.bool (!decide ((⟨xq1.frm, xq1.to, xq1.kind, xq1.rule⟩ : Edg) = (⟨x142.frm, x142.to, 2, x142.rule⟩ : Edg)))) := ((hv 11 rfl).2 94 rfl).trans (hv 11 rfl).1
      clear hv h0
      refine Wnt ?_
      refine WC.cond ((!decide ((⟨xq1.frm, xq1.to, xq1.kind, xq1.rule⟩ : Edg) = (⟨x142.frm, x142.to, 2, x142.rule⟩ : Edg)))) e291 (fun h292 => ?_) (fun h292 => ?_)
      ·refine WC.seq ?_
       refine WC.region ?_
       refine W1 (OpT.assign (.bool false) rfl ?_)
       refine Wnt ?_
       refine WC.ret <| thenQ_r <| blkQ_r <| thenQ_r <| loopQ_r <| blkQ_r <| blkQ_r <| thenQ_r <| loopQ_r <| blkQ_r <| thenQ_r <| retQ.one (.bool false) rfl ?_
       exact absurd (show (⟨xq1.frm, xq1.to, xq1.kind, xq1.rule⟩ : Edg) = (⟨x142.frm, x142.to, 2, x142.rule⟩ : Edg) from (kinds_ok hrl hx142 hx160 hxq1).trans (by simp only [kindOf]; simp [h154, h157, h165])) (of_decide_eq_false (by simpa only [Bool.not_eq_true'] using h292))
      refine WC.skip ?_
      refine thenQ_n ?_
      refine WC.region ?_
      refine W1 (OpT.move (.int .i64 ((((edgesF (rs.take i)).length + j : Nat) : Int))) e284 ?_)
      refine W1 (OpT.iadd .i64 ((((edgesF (rs.take i)).length + j : Nat) : Int)) (1) ((((edgesF (rs.take i)).length + j + 1 : Nat) : Int)) rfl rfl (wadd (a := (edgesF (rs.take i)).length + j) (b := 1) (by omega)) ?_)
      refine W1 (OpT.assign (.int .i64 ((((edgesF (rs.take i)).length + j + 1 : Nat) : Int))) rfl ?_)
      refine WL.nil ?_
      refine blkQ_n ?_
      refine thenQ_n ?_
      refine WC.region ?_
      refine W1 (OpT.move (ni j) e290 ?_)
      refine W1 (OpT.iadd .i64 (((j : Nat) : Int)) (1) (((j + 1 : Nat) : Int)) rfl rfl (wadd (a := j) (b := 1) (by omega)) ?_)
      refine W1 (OpT.assign (ni (j + 1)) rfl ?_)
      refine WL.nil ?_
      have st293 : St Z114 w119 w280 (L) := St.selT [Blk b147 47 [(.string x142.frm), (.string x142.to), (.int .i8 (2)), (.int .i64 (x142.rule))]] [] rfl (by decide) st279
      exact loopQ_n _ (by omega) ⟨j + 1, rfl, by omega, rfl, rfl, e282, e283, e285, e286, e287, e288, e289, st293⟩
     refine WC.skip ?_
     refine thenQ_n ?_
     refine WC.seq ?_
     refine WC.seq ?_
     have hLa := len_at hrl (k := j) (by omega)
     by_cases h294 : (((edgesF rs).length : Nat) : Int) ≤ (((edgesF (rs.take i)).length + j : Nat) : Int)
     ·refine WC.draw 12 (fun jj vv => match jj with | 0 => vv = (.int .i64 ((((edgesF (rs.take i)).length + j : Nat) : Int))) | 1 => vv = v11 | 2 => vv = (.int .i64 ((((edgesF rs).length : Nat) : Int))) | 3 => vv = (.bool (decide ((((edgesF rs).length : Nat) : Int) ≤ (((edgesF (rs.take i)).length + j : Nat) : Int)))) | 4 => vv = (.bool (decide ((((edgesF rs).length : Nat) : Int) ≤ (((edgesF (rs.take i)).length + j : Nat) : Int)))) | 5 => vv = undef | 6 => vv = undef | 7 => vv = undef | 8 => vv = undef | 9 => vv = undef | 10 => vv = undef | 11 => vv = (.bool true) | _ => True) (fun _ _ => []) st159 fmix (by kernel_rfl) ((obS (obS (obS (obS (obS (obS (obS (obS (obS (obS (obS (obS ob0 ?_) ?_) ?_) ?_) ?_) ?_) ?_) ?_) ?_) ?_) ?_) ?_)) ?_
      ·intro vals ρ w296 X hd h0 st295
       have e297 : ρ 4 = (.int .i64 ((((edgesF (rs.take i)).length + j : Nat) : Int))) := (h0 4 rfl).trans hs132
       refine W1 (OpT.move (.int .i64 ((((edgesF (rs.take i)).length + j : Nat) : Int))) e297 ?_)
       refine WL.nil ?_
       exact oneQ.mk ⟨rfl, st295⟩
      ·intro vals ρ w299 X hd h0 st298
       have e300 : ρ 3 = v11 := (h0 3 rfl).trans hs134
       refine W1 (OpT.move v11 e300 ?_)
       refine WL.nil ?_
       exact oneQ.mk ⟨rfl, st298⟩
      ·intro vals ρ w302 X hd h0 st301
       have e303 : ρ 84 = v11 := ((hd 1 rfl).2 84 rfl).trans (hd 1 rfl).1
       refine W1 (OpT.lenR rfl tu24 hL122 e303 ?_)
       refine WL.nil ?_
       exact oneQ.mk ⟨rfl, st301⟩
      ·intro vals ρ w305 X hd h0 st304
       have e306 : ρ 83 = (.int .i64 ((((edgesF (rs.take i)).length + j : Nat) : Int))) := ((hd 0 rfl).2 83 rfl).trans (hd 0 rfl).1
       have e307 : ρ 85 = (.int .i64 ((((edgesF rs).length : Nat) : Int))) := ((hd 2 rfl).2 85 rfl).trans (hd 2 rfl).1
       refine W1 (OpT.ige .i64 ((((edgesF (rs.take i)).length + j : Nat) : Int)) ((((edgesF rs).length : Nat) : Int)) e306 e307 ?_)
       refine WL.nil ?_
       exact oneQ.mk ⟨rfl, st304⟩
      ·intro vals ρ w309 X hd h0 st308
       have e310 : ρ 86 = (.bool (decide ((((edgesF rs).length : Nat) : Int) ≤ (((edgesF (rs.take i)).length + j : Nat) : Int)))) := ((hd 3 rfl).2 86 rfl).trans (hd 3 rfl).1
       refine W1 (OpT.move (.bool (decide ((((edgesF rs).length : Nat) : Int) ≤ (((edgesF (rs.take i)).length + j : Nat) : Int)))) e310 ?_)
       refine WL.nil ?_
       exact oneQ.mk ⟨rfl, st308⟩
      ·intro vals ρ w312 X hd h0 st311
       have e313 : ρ 3 = v11 := (h0 3 rfl).trans hs134
       have e314 : ρ 87 = (.bool (decide ((((edgesF rs).length : Nat) : Int) ≤ (((edgesF (rs.take i)).length + j : Nat) : Int)))) := ((hd 4 rfl).2 87 rfl).trans (hd 4 rfl).1
       refine WL.pass (dj := 87) (c := true) rfl rfl rfl (e314.trans (bT h294)) rfl ?_
       refine WL.nil ?_
       exact oneQ.mk ⟨rfl, st311⟩
      ·intro vals ρ w316 X hd h0 st315
       have e317 : ρ 4 = (.int .i64 ((((edgesF (rs.take i)).length + j : Nat) : Int))) := (h0 4 rfl).trans hs132
       have e318 : ρ 87 = (.bool (decide ((((edgesF rs).length : Nat) : Int) ≤ (((edgesF (rs.take i)).length + j : Nat) : Int)))) := ((hd 4 rfl).2 87 rfl).trans (hd 4 rfl).1
       refine WL.pass (dj := 87) (c := true) rfl rfl rfl (e318.trans (bT h294)) rfl ?_
       refine WL.nil ?_
       exact oneQ.mk ⟨rfl, st315⟩
      ·intro vals ρ w320 X hd h0 st319
       have e321 : ρ 87 = (.bool (decide ((((edgesF rs).length : Nat) : Int) ≤ (((edgesF (rs.take i)).length + j : Nat) : Int)))) := ((hd 4 rfl).2 87 rfl).trans (hd 4 rfl).1
       have e322 : ρ 88 = undef := ((hd 5 rfl).2 88 rfl).trans (hd 5 rfl).1
       have e323 : ρ 89 = undef := ((hd 6 rfl).2 89 rfl).trans (hd 6 rfl).1
       refine WL.pass (dj := 87) (c := true) rfl rfl rfl (e321.trans (bT h294)) rfl ?_
       refine WL.nil ?_
       exact oneQ.mk ⟨rfl, st319⟩
      ·intro vals ρ w325 X hd h0 st324
       have e326 : ρ 87 = (.bool (decide ((((edgesF rs).length : Nat) : Int) ≤ (((edgesF (rs.take i)).length + j : Nat) : Int)))) := ((hd 4 rfl).2 87 rfl).trans (hd 4 rfl).1
       have e327 : ρ 90 = undef := ((hd 7 rfl).2 90 rfl).trans (hd 7 rfl).1
       refine WL.pass (dj := 87) (c := true) rfl rfl rfl (e326.trans (bT h294)) rfl ?_
       refine WL.nil ?_
       exact oneQ.mk ⟨rfl, st324⟩
      ·intro vals ρ w329 X hd h0 st328
       have e330 : ρ 12 = (pt b147 0) := (h0 12 rfl).trans rfl
       have e331 : ρ 87 = (.bool (decide ((((edgesF rs).length : Nat) : Int) ≤ (((edgesF (rs.take i)).length + j : Nat) : Int)))) := ((hd 4 rfl).2 87 rfl).trans (hd 4 rfl).1
       refine WL.pass (dj := 87) (c := true) rfl rfl rfl (e331.trans (bT h294)) rfl ?_
       refine WL.nil ?_
       exact oneQ.mk ⟨rfl, st328⟩
      ·intro vals ρ w333 X hd h0 st332
       have e334 : ρ 87 = (.bool (decide ((((edgesF rs).length : Nat) : Int) ≤ (((edgesF (rs.take i)).length + j : Nat) : Int)))) := ((hd 4 rfl).2 87 rfl).trans (hd 4 rfl).1
       have e335 : ρ 91 = undef := ((hd 8 rfl).2 91 rfl).trans (hd 8 rfl).1
       have e336 : ρ 92 = undef := ((hd 9 rfl).2 92 rfl).trans (hd 9 rfl).1
       refine WL.pass (dj := 87) (c := true) rfl rfl rfl (e334.trans (bT h294)) rfl ?_
       refine WL.nil ?_
       exact oneQ.mk ⟨rfl, st332⟩
      ·intro vals ρ w338 X hd h0 st337
       have e339 : ρ 87 = (.bool (decide ((((edgesF rs).length : Nat) : Int) ≤ (((edgesF (rs.take i)).length + j : Nat) : Int)))) := ((hd 4 rfl).2 87 rfl).trans (hd 4 rfl).1
       have e340 : ρ 93 = undef := ((hd 10 rfl).2 93 rfl).trans (hd 10 rfl).1
       refine W1 (OpT.pickT (.bool true) (e339.trans (bT h294)) rfl ?_)
       refine WL.nil ?_
       exact oneQ.mk ⟨rfl, st337⟩
      intro vals ρ343 w342 hv h0 st341
      replace st341 : St Z114 w119 w342 (Blk b147 47 [(.string x142.frm), (.string x142.to), (.int .i8 (3)), (.int .i64 (x142.rule))] :: L) := st341
      have e344 : ρ343 0 = v := (h0 0 rfl).trans hs133
      have e345 : ρ343 3 = v11 := (h0 3 rfl).trans hs134
      have e346 : ρ343 4 = (.int .i64 ((((edgesF (rs.take i)).length + j : Nat) : Int))) := (h0 4 rfl).trans hs132
      have e347 : ρ343 5 = (ni i) := (h0 5 rfl).trans hs135
      have e348 : ρ343 6 = (.bool (aggsB rl)) := (h0 6 rfl).trans hs136
      have e349 : ρ343 8 = (.bool (makesB rl)) := (h0 8 rfl).trans hs137
      have e350 : ρ343 9 = v96 := (h0 9 rfl).trans hs138
      have e351 : ρ343 10 = v118 := (h0 10 rfl).trans hs139
      have e352 : ρ343 11 = (ni j) := (h0 11 rfl).trans hs131
      have e353 : ρ343 94 = (.bool true) := ((hv 11 rfl).2 94 rfl).trans (hv 11 rfl).1
      clear hv h0
      refine Wnt ?_
      refine WC.condT e353 ?_
      refine Wsr ?_
      refine W1 (OpT.assign (.bool false) rfl ?_)
      refine Wnt ?_
      refine WC.ret <| thenQ_r <| blkQ_r <| thenQ_r <| loopQ_r <| blkQ_r <| blkQ_r <| thenQ_r <| loopQ_r <| blkQ_r <| thenQ_r <| retQ.one (.bool false) rfl ?_
      exfalso
      omega
     obtain ⟨xq2, hxq2⟩ : ∃ x, ((edgesF rs))[(edgesF (rs.take i)).length + j]? = some x := ⟨_, List.getElem?_eq_getElem (by omega)⟩
     obtain ⟨adq2, csq2, hEq2, hrq2, hRq2⟩ := Rl.sl_el hL122 hxq2
     have hRq2c := hRq2
     obtain rfl := hRq2
     refine WC.draw 12 (fun jj vv => match jj with | 0 => vv = (.int .i64 ((((edgesF (rs.take i)).length + j : Nat) : Int))) | 1 => vv = v11 | 2 => vv = (.int .i64 ((((edgesF rs).length : Nat) : Int))) | 3 => vv = (.bool (decide ((((edgesF rs).length : Nat) : Int) ≤ (((edgesF (rs.take i)).length + j : Nat) : Int)))) | 4 => vv = (.bool (decide ((((edgesF rs).length : Nat) : Int) ≤ (((edgesF (rs.take i)).length + j : Nat) : Int)))) | 5 => vv = v11 | 6 => vv = (.int .i64 ((((edgesF (rs.take i)).length + j : Nat) : Int))) | 7 => vv = (.pointer (some adq2)) | 8 => vv = (.agg #[(.string xq2.frm), (.string xq2.to), (.int .i8 (xq2.kind)), (.int .i64 (xq2.rule))]) | 9 => vv = (.agg #[(.string x142.frm), (.string x142.to), (.int .i8 (3)), (.int .i64 (x142.rule))]) | 10 => vv = (.bool (!decide ((⟨xq2.frm, xq2.to, xq2.kind, xq2.rule⟩ : Edg) = (⟨x142.frm, x142.to, 3, x142.rule⟩ : Edg)))) | 11 => vv = (.bool (!decide ((⟨xq2.frm, xq2.to, xq2.kind, xq2.rule⟩ : Edg) = (⟨x142.frm, x142.to, 3, x142.rule⟩ : Edg)))) | _ => True) (fun _ _ => []) st159 fmix (by kernel_rfl) ((obS (obS (obS (obS (obS (obS (obS (obS (obS (obS (obS (obS ob0 ?_) ?_) ?_) ?_) ?_) ?_) ?_) ?_) ?_) ?_) ?_) ?_)) ?_
     ·intro vals ρ w355 X hd h0 st354
      have e356 : ρ 4 = (.int .i64 ((((edgesF (rs.take i)).length + j : Nat) : Int))) := (h0 4 rfl).trans hs132
      refine W1 (OpT.move (.int .i64 ((((edgesF (rs.take i)).length + j : Nat) : Int))) e356 ?_)
      refine WL.nil ?_
      exact oneQ.mk ⟨rfl, st354⟩
     ·intro vals ρ w358 X hd h0 st357
      have e359 : ρ 3 = v11 := (h0 3 rfl).trans hs134
      refine W1 (OpT.move v11 e359 ?_)
      refine WL.nil ?_
      exact oneQ.mk ⟨rfl, st357⟩
     ·intro vals ρ w361 X hd h0 st360
      have e362 : ρ 84 = v11 := ((hd 1 rfl).2 84 rfl).trans (hd 1 rfl).1
      refine W1 (OpT.lenR rfl tu24 hL122 e362 ?_)
      refine WL.nil ?_
      exact oneQ.mk ⟨rfl, st360⟩
     ·intro vals ρ w364 X hd h0 st363
      have e365 : ρ 83 = (.int .i64 ((((edgesF (rs.take i)).length + j : Nat) : Int))) := ((hd 0 rfl).2 83 rfl).trans (hd 0 rfl).1
      have e366 : ρ 85 = (.int .i64 ((((edgesF rs).length : Nat) : Int))) := ((hd 2 rfl).2 85 rfl).trans (hd 2 rfl).1
      refine W1 (OpT.ige .i64 ((((edgesF (rs.take i)).length + j : Nat) : Int)) ((((edgesF rs).length : Nat) : Int)) e365 e366 ?_)
      refine WL.nil ?_
      exact oneQ.mk ⟨rfl, st363⟩
     ·intro vals ρ w368 X hd h0 st367
      have e369 : ρ 86 = (.bool (decide ((((edgesF rs).length : Nat) : Int) ≤ (((edgesF (rs.take i)).length + j : Nat) : Int)))) := ((hd 3 rfl).2 86 rfl).trans (hd 3 rfl).1
      refine W1 (OpT.move (.bool (decide ((((edgesF rs).length : Nat) : Int) ≤ (((edgesF (rs.take i)).length + j : Nat) : Int)))) e369 ?_)
      refine WL.nil ?_
      exact oneQ.mk ⟨rfl, st367⟩
     ·intro vals ρ w371 X hd h0 st370
      have e372 : ρ 3 = v11 := (h0 3 rfl).trans hs134
      have e373 : ρ 87 = (.bool (decide ((((edgesF rs).length : Nat) : Int) ≤ (((edgesF (rs.take i)).length + j : Nat) : Int)))) := ((hd 4 rfl).2 87 rfl).trans (hd 4 rfl).1
      refine W2 (dj := 87) (e373.trans (bF h294)) (OpT.move v11 e372 ?_)
      refine WL.nil ?_
      exact oneQ.mk ⟨rfl, st370⟩
     ·intro vals ρ w375 X hd h0 st374
      have e376 : ρ 4 = (.int .i64 ((((edgesF (rs.take i)).length + j : Nat) : Int))) := (h0 4 rfl).trans hs132
      have e377 : ρ 87 = (.bool (decide ((((edgesF rs).length : Nat) : Int) ≤ (((edgesF (rs.take i)).length + j : Nat) : Int)))) := ((hd 4 rfl).2 87 rfl).trans (hd 4 rfl).1
      refine W2 (dj := 87) (e377.trans (bF h294)) (OpT.move (.int .i64 ((((edgesF (rs.take i)).length + j : Nat) : Int))) e376 ?_)
      refine WL.nil ?_
      exact oneQ.mk ⟨rfl, st374⟩
     ·intro vals ρ w379 X hd h0 st378
      have e380 : ρ 87 = (.bool (decide ((((edgesF rs).length : Nat) : Int) ≤ (((edgesF (rs.take i)).length + j : Nat) : Int)))) := ((hd 4 rfl).2 87 rfl).trans (hd 4 rfl).1
      have e381 : ρ 88 = v11 := ((hd 5 rfl).2 88 rfl).trans (hd 5 rfl).1
      have e382 : ρ 89 = (.int .i64 ((((edgesF (rs.take i)).length + j : Nat) : Int))) := ((hd 6 rfl).2 89 rfl).trans (hd 6 rfl).1
      refine W2 (dj := 87) (e380.trans (bF h294)) (OpT.idxE tu24 ts47 e381 .i64 ((edgesF (rs.take i)).length + j) e382 hEq2 ?_)
      refine WL.nil ?_
      exact oneQ.mk ⟨rfl, st378⟩
     ·intro vals ρ w389 X hd h0 st388
      have e390 : ρ 87 = (.bool (decide ((((edgesF rs).length : Nat) : Int) ≤ (((edgesF (rs.take i)).length + j : Nat) : Int)))) := ((hd 4 rfl).2 87 rfl).trans (hd 4 rfl).1
      have e391 : ρ 90 = (.pointer (some adq2)) := ((hd 7 rfl).2 90 rfl).trans (hd 7 rfl).1
      refine W2 (dj := 87) (e390.trans (bF h294)) (OpT.loadA adq2 4 [(.string xq2.frm), (.string xq2.to), (.int .i8 (xq2.kind)), (.int .i64 (xq2.rule))] ta47 ts47 e391 ((hrq2.at st388).part 0 4) rfl ?_)
      refine WL.nil ?_
      exact oneQ.mk ⟨rfl, st388⟩
     ·intro vals ρ w393 X hd h0 st392
      have e394 : ρ 12 = (pt b147 0) := (h0 12 rfl).trans rfl
      have e395 : ρ 87 = (.bool (decide ((((edgesF rs).length : Nat) : Int) ≤ (((edgesF (rs.take i)).length + j : Nat) : Int)))) := ((hd 4 rfl).2 87 rfl).trans (hd 4 rfl).1
      refine W2 (dj := 87) (e395.trans (bF h294)) (OpT.loadA ⟨b147, 0, none⟩ 4 [(.string x142.frm), (.string x142.to), (.int .i8 (3)), (.int .i64 (x142.rule))] ta47 ts47 e394 ((st392.rowB (i := 0) rfl).part 0 4) rfl ?_)
      refine WL.nil ?_
      exact oneQ.mk ⟨rfl, st392⟩
     ·intro vals ρ w397 X hd h0 st396
      have e398 : ρ 87 = (.bool (decide ((((edgesF rs).length : Nat) : Int) ≤ (((edgesF (rs.take i)).length + j : Nat) : Int)))) := ((hd 4 rfl).2 87 rfl).trans (hd 4 rfl).1
      have e399 : ρ 91 = (.agg #[(.string xq2.frm), (.string xq2.to), (.int .i8 (xq2.kind)), (.int .i64 (xq2.rule))]) := ((hd 8 rfl).2 91 rfl).trans (hd 8 rfl).1
      have e400 : ρ 92 = (.agg #[(.string x142.frm), (.string x142.to), (.int .i8 (3)), (.int .i64 (x142.rule))]) := ((hd 9 rfl).2 92 rfl).trans (hd 9 rfl).1
      refine W2 (dj := 87) (e398.trans (bF h294)) (OpT.aggNe [(.string xq2.frm), (.string xq2.to), (.int .i8 (xq2.kind)), (.int .i64 (xq2.rule))] [(.string x142.frm), (.string x142.to), (.int .i8 (3)), (.int .i64 (x142.rule))] (decide ((⟨xq2.frm, xq2.to, xq2.kind, xq2.rule⟩ : Edg) = (⟨x142.frm, x142.to, 3, x142.rule⟩ : Edg))) tg47 (fun w => eqEdg 9998 w (⟨xq2.frm, xq2.to, xq2.kind, xq2.rule⟩ : Edg) (⟨x142.frm, x142.to, 3, x142.rule⟩ : Edg)) e399 e400 ?_)
      refine WL.nil ?_
      exact oneQ.mk ⟨rfl, st396⟩
     ·intro vals ρ w402 X hd h0 st401
      have e403 : ρ 87 = (.bool (decide ((((edgesF rs).length : Nat) : Int) ≤ (((edgesF (rs.take i)).length + j : Nat) : Int)))) := ((hd 4 rfl).2 87 rfl).trans (hd 4 rfl).1
      have e404 : ρ 93 = (.bool (!decide ((⟨xq2.frm, xq2.to, xq2.kind, xq2.rule⟩ : Edg) = (⟨x142.frm, x142.to, 3, x142.rule⟩ : Edg)))) := ((hd 10 rfl).2 93 rfl).trans (hd 10 rfl).1
      refine W1 (OpT.pickF (.bool (!decide ((⟨xq2.frm, xq2.to, xq2.kind, xq2.rule⟩ : Edg) = (⟨x142.frm, x142.to, 3, x142.rule⟩ : Edg)))) (e403.trans (bF h294)) e404 ?_)
      refine WL.nil ?_
      exact oneQ.mk ⟨rfl, st401⟩
     intro vals ρ407 w406 hv h0 st405
     replace st405 : St Z114 w119 w406 (Blk b147 47 [(.string x142.frm), (.string x142.to), (.int .i8 (3)), (.int .i64 (x142.rule))] :: L) := st405
     have e408 : ρ407 0 = v := (h0 0 rfl).trans hs133
     have e409 : ρ407 3 = v11 := (h0 3 rfl).trans hs134
     have e410 : ρ407 4 = (.int .i64 ((((edgesF (rs.take i)).length + j : Nat) : Int))) := (h0 4 rfl).trans hs132
     have e411 : ρ407 5 = (ni i) := (h0 5 rfl).trans hs135
     have e412 : ρ407 6 = (.bool (aggsB rl)) := (h0 6 rfl).trans hs136
     have e413 : ρ407 8 = (.bool (makesB rl)) := (h0 8 rfl).trans hs137
     have e414 : ρ407 9 = v96 := (h0 9 rfl).trans hs138
     have e415 : ρ407 10 = v118 := (h0 10 rfl).trans hs139
     have e416 : ρ407 11 = (ni j) := (h0 11 rfl).trans hs131
     have e417 : ρ407 94 = (.bool (!decide ((⟨xq2.frm, xq2.to, xq2.kind, xq2.rule⟩ : Edg) = (⟨x142.frm, x142.to, 3, x142.rule⟩ : Edg)))) := ((hv 11 rfl).2 94 rfl).trans (hv 11 rfl).1
     clear hv h0
     refine Wnt ?_
     refine WC.cond ((!decide ((⟨xq2.frm, xq2.to, xq2.kind, xq2.rule⟩ : Edg) = (⟨x142.frm, x142.to, 3, x142.rule⟩ : Edg)))) e417 (fun h418 => ?_) (fun h418 => ?_)
     ·refine WC.seq ?_
      refine WC.region ?_
      refine W1 (OpT.assign (.bool false) rfl ?_)
      refine Wnt ?_
      refine WC.ret <| thenQ_r <| blkQ_r <| thenQ_r <| loopQ_r <| blkQ_r <| blkQ_r <| thenQ_r <| loopQ_r <| blkQ_r <| thenQ_r <| retQ.one (.bool false) rfl ?_
      exact absurd (show (⟨xq2.frm, xq2.to, xq2.kind, xq2.rule⟩ : Edg) = (⟨x142.frm, x142.to, 3, x142.rule⟩ : Edg) from (kinds_ok hrl hx142 hx160 hxq2).trans (by simp only [kindOf]; simp [h154, h157, h165])) (of_decide_eq_false (by simpa only [Bool.not_eq_true'] using h418))
     refine WC.skip ?_
     refine thenQ_n ?_
     refine WC.region ?_
     refine W1 (OpT.move (.int .i64 ((((edgesF (rs.take i)).length + j : Nat) : Int))) e410 ?_)
     refine W1 (OpT.iadd .i64 ((((edgesF (rs.take i)).length + j : Nat) : Int)) (1) ((((edgesF (rs.take i)).length + j + 1 : Nat) : Int)) rfl rfl (wadd (a := (edgesF (rs.take i)).length + j) (b := 1) (by omega)) ?_)
     refine W1 (OpT.assign (.int .i64 ((((edgesF (rs.take i)).length + j + 1 : Nat) : Int))) rfl ?_)
     refine WL.nil ?_
     refine blkQ_n ?_
     refine thenQ_n ?_
     refine WC.region ?_
     refine W1 (OpT.move (ni j) e416 ?_)
     refine W1 (OpT.iadd .i64 (((j : Nat) : Int)) (1) (((j + 1 : Nat) : Int)) rfl rfl (wadd (a := j) (b := 1) (by omega)) ?_)
     refine W1 (OpT.assign (ni (j + 1)) rfl ?_)
     refine WL.nil ?_
     have st419 : St Z114 w119 w406 (L) := St.selT [Blk b147 47 [(.string x142.frm), (.string x142.to), (.int .i8 (3)), (.int .i64 (x142.rule))]] [] rfl (by decide) st405
     exact loopQ_n _ (by omega) ⟨j + 1, rfl, by omega, rfl, rfl, e408, e409, e411, e412, e413, e414, e415, st419⟩
    refine WC.skip ?_
    refine thenQ_n ?_
    refine WC.seq ?_
    refine Wsr ?_
    refine W1 (OpT.move v118 hs139 ?_)
    refine W1 (OpT.move (ni j) hs131 ?_)
    obtain ⟨x420, hx420⟩ : ∃ x, ((lno rl))[j]? = some x := ⟨_, List.getElem?_eq_getElem (by omega)⟩
    refine W1 (OpT.idxX tu43 ts4 hs116 rfl .i64 (j) rfl hx420 (fun ad421 cs422 hr423 hR424 => ?_))
    have hR424c := hR424
    obtain rfl := hR424
    refine W1 (OpT.loadS ad421 (.bool x420) ta4 rfl (hr423.cell st156 (j := 0) rfl) ?_)
    refine Wnt ?_
    refine WC.cond (x420) rfl (fun h425 => ?_) (fun h425 => ?_)
    ·refine WC.region ?_
     refine W1 (OpT.field 2 ⟨b147, 0, none⟩ ⟨b147, 2, none⟩ tf47_2 rfl rfl ?_)
     refine WL.stepN (OpT.storeS st156 0 (.int .i8 (2)) rfl ts45 rfl rfl rfl rfl rfl (fun w426 st427 => ?_))
     refine Wnt ?_
     refine WC.seq ?_
     refine WC.seq ?_
     have hLa := len_at hrl (k := j) (by omega)
     by_cases h428 : (((edgesF rs).length : Nat) : Int) ≤ (((edgesF (rs.take i)).length + j : Nat) : Int)
     ·refine WC.draw 12 (fun jj vv => match jj with | 0 => vv = (.int .i64 ((((edgesF (rs.take i)).length + j : Nat) : Int))) | 1 => vv = v11 | 2 => vv = (.int .i64 ((((edgesF rs).length : Nat) : Int))) | 3 => vv = (.bool (decide ((((edgesF rs).length : Nat) : Int) ≤ (((edgesF (rs.take i)).length + j : Nat) : Int)))) | 4 => vv = (.bool (decide ((((edgesF rs).length : Nat) : Int) ≤ (((edgesF (rs.take i)).length + j : Nat) : Int)))) | 5 => vv = undef | 6 => vv = undef | 7 => vv = undef | 8 => vv = undef | 9 => vv = undef | 10 => vv = undef | 11 => vv = (.bool true) | _ => True) (fun _ _ => []) st427 fmix (by kernel_rfl) ((obS (obS (obS (obS (obS (obS (obS (obS (obS (obS (obS (obS ob0 ?_) ?_) ?_) ?_) ?_) ?_) ?_) ?_) ?_) ?_) ?_) ?_)) ?_
      ·intro vals ρ w430 X hd h0 st429
       have e431 : ρ 4 = (.int .i64 ((((edgesF (rs.take i)).length + j : Nat) : Int))) := (h0 4 rfl).trans hs132
       refine W1 (OpT.move (.int .i64 ((((edgesF (rs.take i)).length + j : Nat) : Int))) e431 ?_)
       refine WL.nil ?_
       exact oneQ.mk ⟨rfl, st429⟩
      ·intro vals ρ w433 X hd h0 st432
       have e434 : ρ 3 = v11 := (h0 3 rfl).trans hs134
       refine W1 (OpT.move v11 e434 ?_)
       refine WL.nil ?_
       exact oneQ.mk ⟨rfl, st432⟩
      ·intro vals ρ w436 X hd h0 st435
       have e437 : ρ 84 = v11 := ((hd 1 rfl).2 84 rfl).trans (hd 1 rfl).1
       refine W1 (OpT.lenR rfl tu24 hL122 e437 ?_)
       refine WL.nil ?_
       exact oneQ.mk ⟨rfl, st435⟩
      ·intro vals ρ w439 X hd h0 st438
       have e440 : ρ 83 = (.int .i64 ((((edgesF (rs.take i)).length + j : Nat) : Int))) := ((hd 0 rfl).2 83 rfl).trans (hd 0 rfl).1
       have e441 : ρ 85 = (.int .i64 ((((edgesF rs).length : Nat) : Int))) := ((hd 2 rfl).2 85 rfl).trans (hd 2 rfl).1
       refine W1 (OpT.ige .i64 ((((edgesF (rs.take i)).length + j : Nat) : Int)) ((((edgesF rs).length : Nat) : Int)) e440 e441 ?_)
       refine WL.nil ?_
       exact oneQ.mk ⟨rfl, st438⟩
      ·intro vals ρ w443 X hd h0 st442
       have e444 : ρ 86 = (.bool (decide ((((edgesF rs).length : Nat) : Int) ≤ (((edgesF (rs.take i)).length + j : Nat) : Int)))) := ((hd 3 rfl).2 86 rfl).trans (hd 3 rfl).1
       refine W1 (OpT.move (.bool (decide ((((edgesF rs).length : Nat) : Int) ≤ (((edgesF (rs.take i)).length + j : Nat) : Int)))) e444 ?_)
       refine WL.nil ?_
       exact oneQ.mk ⟨rfl, st442⟩
      ·intro vals ρ w446 X hd h0 st445
       have e447 : ρ 3 = v11 := (h0 3 rfl).trans hs134
       have e448 : ρ 87 = (.bool (decide ((((edgesF rs).length : Nat) : Int) ≤ (((edgesF (rs.take i)).length + j : Nat) : Int)))) := ((hd 4 rfl).2 87 rfl).trans (hd 4 rfl).1
       refine WL.pass (dj := 87) (c := true) rfl rfl rfl (e448.trans (bT h428)) rfl ?_
       refine WL.nil ?_
       exact oneQ.mk ⟨rfl, st445⟩
      ·intro vals ρ w450 X hd h0 st449
       have e451 : ρ 4 = (.int .i64 ((((edgesF (rs.take i)).length + j : Nat) : Int))) := (h0 4 rfl).trans hs132
       have e452 : ρ 87 = (.bool (decide ((((edgesF rs).length : Nat) : Int) ≤ (((edgesF (rs.take i)).length + j : Nat) : Int)))) := ((hd 4 rfl).2 87 rfl).trans (hd 4 rfl).1
       refine WL.pass (dj := 87) (c := true) rfl rfl rfl (e452.trans (bT h428)) rfl ?_
       refine WL.nil ?_
       exact oneQ.mk ⟨rfl, st449⟩
      ·intro vals ρ w454 X hd h0 st453
       have e455 : ρ 87 = (.bool (decide ((((edgesF rs).length : Nat) : Int) ≤ (((edgesF (rs.take i)).length + j : Nat) : Int)))) := ((hd 4 rfl).2 87 rfl).trans (hd 4 rfl).1
       have e456 : ρ 88 = undef := ((hd 5 rfl).2 88 rfl).trans (hd 5 rfl).1
       have e457 : ρ 89 = undef := ((hd 6 rfl).2 89 rfl).trans (hd 6 rfl).1
       refine WL.pass (dj := 87) (c := true) rfl rfl rfl (e455.trans (bT h428)) rfl ?_
       refine WL.nil ?_
       exact oneQ.mk ⟨rfl, st453⟩
      ·intro vals ρ w459 X hd h0 st458
       have e460 : ρ 87 = (.bool (decide ((((edgesF rs).length : Nat) : Int) ≤ (((edgesF (rs.take i)).length + j : Nat) : Int)))) := ((hd 4 rfl).2 87 rfl).trans (hd 4 rfl).1
       have e461 : ρ 90 = undef := ((hd 7 rfl).2 90 rfl).trans (hd 7 rfl).1
       refine WL.pass (dj := 87) (c := true) rfl rfl rfl (e460.trans (bT h428)) rfl ?_
       refine WL.nil ?_
       exact oneQ.mk ⟨rfl, st458⟩
      ·intro vals ρ w463 X hd h0 st462
       have e464 : ρ 12 = (pt b147 0) := (h0 12 rfl).trans rfl
       have e465 : ρ 87 = (.bool (decide ((((edgesF rs).length : Nat) : Int) ≤ (((edgesF (rs.take i)).length + j : Nat) : Int)))) := ((hd 4 rfl).2 87 rfl).trans (hd 4 rfl).1
       refine WL.pass (dj := 87) (c := true) rfl rfl rfl (e465.trans (bT h428)) rfl ?_
       refine WL.nil ?_
       exact oneQ.mk ⟨rfl, st462⟩
      ·intro vals ρ w467 X hd h0 st466
       have e468 : ρ 87 = (.bool (decide ((((edgesF rs).length : Nat) : Int) ≤ (((edgesF (rs.take i)).length + j : Nat) : Int)))) := ((hd 4 rfl).2 87 rfl).trans (hd 4 rfl).1
       have e469 : ρ 91 = undef := ((hd 8 rfl).2 91 rfl).trans (hd 8 rfl).1
       have e470 : ρ 92 = undef := ((hd 9 rfl).2 92 rfl).trans (hd 9 rfl).1
       refine WL.pass (dj := 87) (c := true) rfl rfl rfl (e468.trans (bT h428)) rfl ?_
       refine WL.nil ?_
       exact oneQ.mk ⟨rfl, st466⟩
      ·intro vals ρ w472 X hd h0 st471
       have e473 : ρ 87 = (.bool (decide ((((edgesF rs).length : Nat) : Int) ≤ (((edgesF (rs.take i)).length + j : Nat) : Int)))) := ((hd 4 rfl).2 87 rfl).trans (hd 4 rfl).1
       have e474 : ρ 93 = undef := ((hd 10 rfl).2 93 rfl).trans (hd 10 rfl).1
       refine W1 (OpT.pickT (.bool true) (e473.trans (bT h428)) rfl ?_)
       refine WL.nil ?_
       exact oneQ.mk ⟨rfl, st471⟩
      intro vals ρ477 w476 hv h0 st475
      replace st475 : St Z114 w119 w476 (Blk b147 47 [(.string x142.frm), (.string x142.to), (.int .i8 (2)), (.int .i64 (x142.rule))] :: L) := st475
      have e478 : ρ477 0 = v := (h0 0 rfl).trans hs133
      have e479 : ρ477 3 = v11 := (h0 3 rfl).trans hs134
      have e480 : ρ477 4 = (.int .i64 ((((edgesF (rs.take i)).length + j : Nat) : Int))) := (h0 4 rfl).trans hs132
      have e481 : ρ477 5 = (ni i) := (h0 5 rfl).trans hs135
      have e482 : ρ477 6 = (.bool (aggsB rl)) := (h0 6 rfl).trans hs136
      have e483 : ρ477 8 = (.bool (makesB rl)) := (h0 8 rfl).trans hs137
      have e484 : ρ477 9 = v96 := (h0 9 rfl).trans hs138
      have e485 : ρ477 10 = v118 := (h0 10 rfl).trans hs139
      have e486 : ρ477 11 = (ni j) := (h0 11 rfl).trans hs131
      have e487 : ρ477 94 = (.bool true) := ((hv 11 rfl).2 94 rfl).trans (hv 11 rfl).1
      clear hv h0
      refine Wnt ?_
      refine WC.condT e487 ?_
      refine Wsr ?_
      refine W1 (OpT.assign (.bool false) rfl ?_)
      refine Wnt ?_
      refine WC.ret <| thenQ_r <| blkQ_r <| thenQ_r <| loopQ_r <| blkQ_r <| blkQ_r <| thenQ_r <| loopQ_r <| blkQ_r <| thenQ_r <| retQ.one (.bool false) rfl ?_
      exfalso
      omega
     obtain ⟨xq3, hxq3⟩ : ∃ x, ((edgesF rs))[(edgesF (rs.take i)).length + j]? = some x := ⟨_, List.getElem?_eq_getElem (by omega)⟩
     obtain ⟨adq3, csq3, hEq3, hrq3, hRq3⟩ := Rl.sl_el hL122 hxq3
     have hRq3c := hRq3
     obtain rfl := hRq3
     refine WC.draw 12 (fun jj vv => match jj with | 0 => vv = (.int .i64 ((((edgesF (rs.take i)).length + j : Nat) : Int))) | 1 => vv = v11 | 2 => vv = (.int .i64 ((((edgesF rs).length : Nat) : Int))) | 3 => vv = (.bool (decide ((((edgesF rs).length : Nat) : Int) ≤ (((edgesF (rs.take i)).length + j : Nat) : Int)))) | 4 => vv = (.bool (decide ((((edgesF rs).length : Nat) : Int) ≤ (((edgesF (rs.take i)).length + j : Nat) : Int)))) | 5 => vv = v11 | 6 => vv = (.int .i64 ((((edgesF (rs.take i)).length + j : Nat) : Int))) | 7 => vv = (.pointer (some adq3)) | 8 => vv = (.agg #[(.string xq3.frm), (.string xq3.to), (.int .i8 (xq3.kind)), (.int .i64 (xq3.rule))]) | 9 => vv = (.agg #[(.string x142.frm), (.string x142.to), (.int .i8 (2)), (.int .i64 (x142.rule))]) | 10 => vv = (.bool (!decide ((⟨xq3.frm, xq3.to, xq3.kind, xq3.rule⟩ : Edg) = (⟨x142.frm, x142.to, 2, x142.rule⟩ : Edg)))) | 11 => vv = (.bool (!decide ((⟨xq3.frm, xq3.to, xq3.kind, xq3.rule⟩ : Edg) = (⟨x142.frm, x142.to, 2, x142.rule⟩ : Edg)))) | _ => True) (fun _ _ => []) st427 fmix (by kernel_rfl) ((obS (obS (obS (obS (obS (obS (obS (obS (obS (obS (obS (obS ob0 ?_) ?_) ?_) ?_) ?_) ?_) ?_) ?_) ?_) ?_) ?_) ?_)) ?_
     ·intro vals ρ w489 X hd h0 st488
      have e490 : ρ 4 = (.int .i64 ((((edgesF (rs.take i)).length + j : Nat) : Int))) := (h0 4 rfl).trans hs132
      refine W1 (OpT.move (.int .i64 ((((edgesF (rs.take i)).length + j : Nat) : Int))) e490 ?_)
      refine WL.nil ?_
      exact oneQ.mk ⟨rfl, st488⟩
     ·intro vals ρ w492 X hd h0 st491
      have e493 : ρ 3 = v11 := (h0 3 rfl).trans hs134
      refine W1 (OpT.move v11 e493 ?_)
      refine WL.nil ?_
      exact oneQ.mk ⟨rfl, st491⟩
     ·intro vals ρ w495 X hd h0 st494
      have e496 : ρ 84 = v11 := ((hd 1 rfl).2 84 rfl).trans (hd 1 rfl).1
      refine W1 (OpT.lenR rfl tu24 hL122 e496 ?_)
      refine WL.nil ?_
      exact oneQ.mk ⟨rfl, st494⟩
     ·intro vals ρ w498 X hd h0 st497
      have e499 : ρ 83 = (.int .i64 ((((edgesF (rs.take i)).length + j : Nat) : Int))) := ((hd 0 rfl).2 83 rfl).trans (hd 0 rfl).1
      have e500 : ρ 85 = (.int .i64 ((((edgesF rs).length : Nat) : Int))) := ((hd 2 rfl).2 85 rfl).trans (hd 2 rfl).1
      refine W1 (OpT.ige .i64 ((((edgesF (rs.take i)).length + j : Nat) : Int)) ((((edgesF rs).length : Nat) : Int)) e499 e500 ?_)
      refine WL.nil ?_
      exact oneQ.mk ⟨rfl, st497⟩
     ·intro vals ρ w502 X hd h0 st501
      have e503 : ρ 86 = (.bool (decide ((((edgesF rs).length : Nat) : Int) ≤ (((edgesF (rs.take i)).length + j : Nat) : Int)))) := ((hd 3 rfl).2 86 rfl).trans (hd 3 rfl).1
      refine W1 (OpT.move (.bool (decide ((((edgesF rs).length : Nat) : Int) ≤ (((edgesF (rs.take i)).length + j : Nat) : Int)))) e503 ?_)
      refine WL.nil ?_
      exact oneQ.mk ⟨rfl, st501⟩
     ·intro vals ρ w505 X hd h0 st504
      have e506 : ρ 3 = v11 := (h0 3 rfl).trans hs134
      have e507 : ρ 87 = (.bool (decide ((((edgesF rs).length : Nat) : Int) ≤ (((edgesF (rs.take i)).length + j : Nat) : Int)))) := ((hd 4 rfl).2 87 rfl).trans (hd 4 rfl).1
      refine W2 (dj := 87) (e507.trans (bF h428)) (OpT.move v11 e506 ?_)
      refine WL.nil ?_
      exact oneQ.mk ⟨rfl, st504⟩
     ·intro vals ρ w509 X hd h0 st508
      have e510 : ρ 4 = (.int .i64 ((((edgesF (rs.take i)).length + j : Nat) : Int))) := (h0 4 rfl).trans hs132
      have e511 : ρ 87 = (.bool (decide ((((edgesF rs).length : Nat) : Int) ≤ (((edgesF (rs.take i)).length + j : Nat) : Int)))) := ((hd 4 rfl).2 87 rfl).trans (hd 4 rfl).1
      refine W2 (dj := 87) (e511.trans (bF h428)) (OpT.move (.int .i64 ((((edgesF (rs.take i)).length + j : Nat) : Int))) e510 ?_)
      refine WL.nil ?_
      exact oneQ.mk ⟨rfl, st508⟩
     ·intro vals ρ w513 X hd h0 st512
      have e514 : ρ 87 = (.bool (decide ((((edgesF rs).length : Nat) : Int) ≤ (((edgesF (rs.take i)).length + j : Nat) : Int)))) := ((hd 4 rfl).2 87 rfl).trans (hd 4 rfl).1
      have e515 : ρ 88 = v11 := ((hd 5 rfl).2 88 rfl).trans (hd 5 rfl).1
      have e516 : ρ 89 = (.int .i64 ((((edgesF (rs.take i)).length + j : Nat) : Int))) := ((hd 6 rfl).2 89 rfl).trans (hd 6 rfl).1
      refine W2 (dj := 87) (e514.trans (bF h428)) (OpT.idxE tu24 ts47 e515 .i64 ((edgesF (rs.take i)).length + j) e516 hEq3 ?_)
      refine WL.nil ?_
      exact oneQ.mk ⟨rfl, st512⟩
     ·intro vals ρ w523 X hd h0 st522
      have e524 : ρ 87 = (.bool (decide ((((edgesF rs).length : Nat) : Int) ≤ (((edgesF (rs.take i)).length + j : Nat) : Int)))) := ((hd 4 rfl).2 87 rfl).trans (hd 4 rfl).1
      have e525 : ρ 90 = (.pointer (some adq3)) := ((hd 7 rfl).2 90 rfl).trans (hd 7 rfl).1
      refine W2 (dj := 87) (e524.trans (bF h428)) (OpT.loadA adq3 4 [(.string xq3.frm), (.string xq3.to), (.int .i8 (xq3.kind)), (.int .i64 (xq3.rule))] ta47 ts47 e525 ((hrq3.at st522).part 0 4) rfl ?_)
      refine WL.nil ?_
      exact oneQ.mk ⟨rfl, st522⟩
     ·intro vals ρ w527 X hd h0 st526
      have e528 : ρ 12 = (pt b147 0) := (h0 12 rfl).trans rfl
      have e529 : ρ 87 = (.bool (decide ((((edgesF rs).length : Nat) : Int) ≤ (((edgesF (rs.take i)).length + j : Nat) : Int)))) := ((hd 4 rfl).2 87 rfl).trans (hd 4 rfl).1
      refine W2 (dj := 87) (e529.trans (bF h428)) (OpT.loadA ⟨b147, 0, none⟩ 4 [(.string x142.frm), (.string x142.to), (.int .i8 (2)), (.int .i64 (x142.rule))] ta47 ts47 e528 ((st526.rowB (i := 0) rfl).part 0 4) rfl ?_)
      refine WL.nil ?_
      exact oneQ.mk ⟨rfl, st526⟩
     ·intro vals ρ w531 X hd h0 st530
      have e532 : ρ 87 = (.bool (decide ((((edgesF rs).length : Nat) : Int) ≤ (((edgesF (rs.take i)).length + j : Nat) : Int)))) := ((hd 4 rfl).2 87 rfl).trans (hd 4 rfl).1
      have e533 : ρ 91 = (.agg #[(.string xq3.frm), (.string xq3.to), (.int .i8 (xq3.kind)), (.int .i64 (xq3.rule))]) := ((hd 8 rfl).2 91 rfl).trans (hd 8 rfl).1
      have e534 : ρ 92 = (.agg #[(.string x142.frm), (.string x142.to), (.int .i8 (2)), (.int .i64 (x142.rule))]) := ((hd 9 rfl).2 92 rfl).trans (hd 9 rfl).1
      refine W2 (dj := 87) (e532.trans (bF h428)) (OpT.aggNe [(.string xq3.frm), (.string xq3.to), (.int .i8 (xq3.kind)), (.int .i64 (xq3.rule))] [(.string x142.frm), (.string x142.to), (.int .i8 (2)), (.int .i64 (x142.rule))] (decide ((⟨xq3.frm, xq3.to, xq3.kind, xq3.rule⟩ : Edg) = (⟨x142.frm, x142.to, 2, x142.rule⟩ : Edg))) tg47 (fun w => eqEdg 9998 w (⟨xq3.frm, xq3.to, xq3.kind, xq3.rule⟩ : Edg) (⟨x142.frm, x142.to, 2, x142.rule⟩ : Edg)) e533 e534 ?_)
      refine WL.nil ?_
      exact oneQ.mk ⟨rfl, st530⟩
     ·intro vals ρ w536 X hd h0 st535
      have e537 : ρ 87 = (.bool (decide ((((edgesF rs).length : Nat) : Int) ≤ (((edgesF (rs.take i)).length + j : Nat) : Int)))) := ((hd 4 rfl).2 87 rfl).trans (hd 4 rfl).1
      have e538 : ρ 93 = (.bool (!decide ((⟨xq3.frm, xq3.to, xq3.kind, xq3.rule⟩ : Edg) = (⟨x142.frm, x142.to, 2, x142.rule⟩ : Edg)))) := ((hd 10 rfl).2 93 rfl).trans (hd 10 rfl).1
      refine W1 (OpT.pickF (.bool (!decide ((⟨xq3.frm, xq3.to, xq3.kind, xq3.rule⟩ : Edg) = (⟨x142.frm, x142.to, 2, x142.rule⟩ : Edg)))) (e537.trans (bF h428)) e538 ?_)
      refine WL.nil ?_
      exact oneQ.mk ⟨rfl, st535⟩
     intro vals ρ541 w540 hv h0 st539
     replace st539 : St Z114 w119 w540 (Blk b147 47 [(.string x142.frm), (.string x142.to), (.int .i8 (2)), (.int .i64 (x142.rule))] :: L) := st539
     have e542 : ρ541 0 = v := (h0 0 rfl).trans hs133
     have e543 : ρ541 3 = v11 := (h0 3 rfl).trans hs134
     have e544 : ρ541 4 = (.int .i64 ((((edgesF (rs.take i)).length + j : Nat) : Int))) := (h0 4 rfl).trans hs132
     have e545 : ρ541 5 = (ni i) := (h0 5 rfl).trans hs135
     have e546 : ρ541 6 = (.bool (aggsB rl)) := (h0 6 rfl).trans hs136
     have e547 : ρ541 8 = (.bool (makesB rl)) := (h0 8 rfl).trans hs137
     have e548 : ρ541 9 = v96 := (h0 9 rfl).trans hs138
     have e549 : ρ541 10 = v118 := (h0 10 rfl).trans hs139
     have e550 : ρ541 11 = (ni j) := (h0 11 rfl).trans hs131
     have e551 : ρ541 94 = (.bool (!decide ((⟨xq3.frm, xq3.to, xq3.kind, xq3.rule⟩ : Edg) = (⟨x142.frm, x142.to, 2, x142.rule⟩ : Edg)))) := ((hv 11 rfl).2 94 rfl).trans (hv 11 rfl).1
     clear hv h0
     refine Wnt ?_
     refine WC.cond ((!decide ((⟨xq3.frm, xq3.to, xq3.kind, xq3.rule⟩ : Edg) = (⟨x142.frm, x142.to, 2, x142.rule⟩ : Edg)))) e551 (fun h552 => ?_) (fun h552 => ?_)
     ·refine WC.seq ?_
      refine WC.region ?_
      refine W1 (OpT.assign (.bool false) rfl ?_)
      refine Wnt ?_
      refine WC.ret <| thenQ_r <| blkQ_r <| thenQ_r <| loopQ_r <| blkQ_r <| blkQ_r <| thenQ_r <| loopQ_r <| blkQ_r <| thenQ_r <| retQ.one (.bool false) rfl ?_
      exact absurd (show (⟨xq3.frm, xq3.to, xq3.kind, xq3.rule⟩ : Edg) = (⟨x142.frm, x142.to, 2, x142.rule⟩ : Edg) from (kinds_ok hrl hx142 hx420 hxq3).trans (by simp only [kindOf]; simp [h154, h157, h425])) (of_decide_eq_false (by simpa only [Bool.not_eq_true'] using h552))
     refine WC.skip ?_
     refine thenQ_n ?_
     refine WC.region ?_
     refine W1 (OpT.move (.int .i64 ((((edgesF (rs.take i)).length + j : Nat) : Int))) e544 ?_)
     refine W1 (OpT.iadd .i64 ((((edgesF (rs.take i)).length + j : Nat) : Int)) (1) ((((edgesF (rs.take i)).length + j + 1 : Nat) : Int)) rfl rfl (wadd (a := (edgesF (rs.take i)).length + j) (b := 1) (by omega)) ?_)
     refine W1 (OpT.assign (.int .i64 ((((edgesF (rs.take i)).length + j + 1 : Nat) : Int))) rfl ?_)
     refine WL.nil ?_
     refine blkQ_n ?_
     refine thenQ_n ?_
     refine WC.region ?_
     refine W1 (OpT.move (ni j) e550 ?_)
     refine W1 (OpT.iadd .i64 (((j : Nat) : Int)) (1) (((j + 1 : Nat) : Int)) rfl rfl (wadd (a := j) (b := 1) (by omega)) ?_)
     refine W1 (OpT.assign (ni (j + 1)) rfl ?_)
     refine WL.nil ?_
     have st553 : St Z114 w119 w540 (L) := St.selT [Blk b147 47 [(.string x142.frm), (.string x142.to), (.int .i8 (2)), (.int .i64 (x142.rule))]] [] rfl (by decide) st539
     exact loopQ_n _ (by omega) ⟨j + 1, rfl, by omega, rfl, rfl, e542, e543, e545, e546, e547, e548, e549, st553⟩
    refine WC.skip ?_
    refine thenQ_n ?_
    refine WC.seq ?_
    refine WC.seq ?_
    have hLa := len_at hrl (k := j) (by omega)
    by_cases h554 : (((edgesF rs).length : Nat) : Int) ≤ (((edgesF (rs.take i)).length + j : Nat) : Int)
    ·refine WC.draw 12 (fun jj vv => match jj with | 0 => vv = (.int .i64 ((((edgesF (rs.take i)).length + j : Nat) : Int))) | 1 => vv = v11 | 2 => vv = (.int .i64 ((((edgesF rs).length : Nat) : Int))) | 3 => vv = (.bool (decide ((((edgesF rs).length : Nat) : Int) ≤ (((edgesF (rs.take i)).length + j : Nat) : Int)))) | 4 => vv = (.bool (decide ((((edgesF rs).length : Nat) : Int) ≤ (((edgesF (rs.take i)).length + j : Nat) : Int)))) | 5 => vv = undef | 6 => vv = undef | 7 => vv = undef | 8 => vv = undef | 9 => vv = undef | 10 => vv = undef | 11 => vv = (.bool true) | _ => True) (fun _ _ => []) st156 fmix (by kernel_rfl) ((obS (obS (obS (obS (obS (obS (obS (obS (obS (obS (obS (obS ob0 ?_) ?_) ?_) ?_) ?_) ?_) ?_) ?_) ?_) ?_) ?_) ?_)) ?_
     ·intro vals ρ w556 X hd h0 st555
      have e557 : ρ 4 = (.int .i64 ((((edgesF (rs.take i)).length + j : Nat) : Int))) := (h0 4 rfl).trans hs132
      refine W1 (OpT.move (.int .i64 ((((edgesF (rs.take i)).length + j : Nat) : Int))) e557 ?_)
      refine WL.nil ?_
      exact oneQ.mk ⟨rfl, st555⟩
     ·intro vals ρ w559 X hd h0 st558
      have e560 : ρ 3 = v11 := (h0 3 rfl).trans hs134
      refine W1 (OpT.move v11 e560 ?_)
      refine WL.nil ?_
      exact oneQ.mk ⟨rfl, st558⟩
     ·intro vals ρ w562 X hd h0 st561
      have e563 : ρ 84 = v11 := ((hd 1 rfl).2 84 rfl).trans (hd 1 rfl).1
      refine W1 (OpT.lenR rfl tu24 hL122 e563 ?_)
      refine WL.nil ?_
      exact oneQ.mk ⟨rfl, st561⟩
     ·intro vals ρ w565 X hd h0 st564
      have e566 : ρ 83 = (.int .i64 ((((edgesF (rs.take i)).length + j : Nat) : Int))) := ((hd 0 rfl).2 83 rfl).trans (hd 0 rfl).1
      have e567 : ρ 85 = (.int .i64 ((((edgesF rs).length : Nat) : Int))) := ((hd 2 rfl).2 85 rfl).trans (hd 2 rfl).1
      refine W1 (OpT.ige .i64 ((((edgesF (rs.take i)).length + j : Nat) : Int)) ((((edgesF rs).length : Nat) : Int)) e566 e567 ?_)
      refine WL.nil ?_
      exact oneQ.mk ⟨rfl, st564⟩
     ·intro vals ρ w569 X hd h0 st568
      have e570 : ρ 86 = (.bool (decide ((((edgesF rs).length : Nat) : Int) ≤ (((edgesF (rs.take i)).length + j : Nat) : Int)))) := ((hd 3 rfl).2 86 rfl).trans (hd 3 rfl).1
      refine W1 (OpT.move (.bool (decide ((((edgesF rs).length : Nat) : Int) ≤ (((edgesF (rs.take i)).length + j : Nat) : Int)))) e570 ?_)
      refine WL.nil ?_
      exact oneQ.mk ⟨rfl, st568⟩
     ·intro vals ρ w572 X hd h0 st571
      have e573 : ρ 3 = v11 := (h0 3 rfl).trans hs134
      have e574 : ρ 87 = (.bool (decide ((((edgesF rs).length : Nat) : Int) ≤ (((edgesF (rs.take i)).length + j : Nat) : Int)))) := ((hd 4 rfl).2 87 rfl).trans (hd 4 rfl).1
      refine WL.pass (dj := 87) (c := true) rfl rfl rfl (e574.trans (bT h554)) rfl ?_
      refine WL.nil ?_
      exact oneQ.mk ⟨rfl, st571⟩
     ·intro vals ρ w576 X hd h0 st575
      have e577 : ρ 4 = (.int .i64 ((((edgesF (rs.take i)).length + j : Nat) : Int))) := (h0 4 rfl).trans hs132
      have e578 : ρ 87 = (.bool (decide ((((edgesF rs).length : Nat) : Int) ≤ (((edgesF (rs.take i)).length + j : Nat) : Int)))) := ((hd 4 rfl).2 87 rfl).trans (hd 4 rfl).1
      refine WL.pass (dj := 87) (c := true) rfl rfl rfl (e578.trans (bT h554)) rfl ?_
      refine WL.nil ?_
      exact oneQ.mk ⟨rfl, st575⟩
     ·intro vals ρ w580 X hd h0 st579
      have e581 : ρ 87 = (.bool (decide ((((edgesF rs).length : Nat) : Int) ≤ (((edgesF (rs.take i)).length + j : Nat) : Int)))) := ((hd 4 rfl).2 87 rfl).trans (hd 4 rfl).1
      have e582 : ρ 88 = undef := ((hd 5 rfl).2 88 rfl).trans (hd 5 rfl).1
      have e583 : ρ 89 = undef := ((hd 6 rfl).2 89 rfl).trans (hd 6 rfl).1
      refine WL.pass (dj := 87) (c := true) rfl rfl rfl (e581.trans (bT h554)) rfl ?_
      refine WL.nil ?_
      exact oneQ.mk ⟨rfl, st579⟩
     ·intro vals ρ w585 X hd h0 st584
      have e586 : ρ 87 = (.bool (decide ((((edgesF rs).length : Nat) : Int) ≤ (((edgesF (rs.take i)).length + j : Nat) : Int)))) := ((hd 4 rfl).2 87 rfl).trans (hd 4 rfl).1
      have e587 : ρ 90 = undef := ((hd 7 rfl).2 90 rfl).trans (hd 7 rfl).1
      refine WL.pass (dj := 87) (c := true) rfl rfl rfl (e586.trans (bT h554)) rfl ?_
      refine WL.nil ?_
      exact oneQ.mk ⟨rfl, st584⟩
     ·intro vals ρ w589 X hd h0 st588
      have e590 : ρ 12 = (pt b147 0) := (h0 12 rfl).trans rfl
      have e591 : ρ 87 = (.bool (decide ((((edgesF rs).length : Nat) : Int) ≤ (((edgesF (rs.take i)).length + j : Nat) : Int)))) := ((hd 4 rfl).2 87 rfl).trans (hd 4 rfl).1
      refine WL.pass (dj := 87) (c := true) rfl rfl rfl (e591.trans (bT h554)) rfl ?_
      refine WL.nil ?_
      exact oneQ.mk ⟨rfl, st588⟩
     ·intro vals ρ w593 X hd h0 st592
      have e594 : ρ 87 = (.bool (decide ((((edgesF rs).length : Nat) : Int) ≤ (((edgesF (rs.take i)).length + j : Nat) : Int)))) := ((hd 4 rfl).2 87 rfl).trans (hd 4 rfl).1
      have e595 : ρ 91 = undef := ((hd 8 rfl).2 91 rfl).trans (hd 8 rfl).1
      have e596 : ρ 92 = undef := ((hd 9 rfl).2 92 rfl).trans (hd 9 rfl).1
      refine WL.pass (dj := 87) (c := true) rfl rfl rfl (e594.trans (bT h554)) rfl ?_
      refine WL.nil ?_
      exact oneQ.mk ⟨rfl, st592⟩
     ·intro vals ρ w598 X hd h0 st597
      have e599 : ρ 87 = (.bool (decide ((((edgesF rs).length : Nat) : Int) ≤ (((edgesF (rs.take i)).length + j : Nat) : Int)))) := ((hd 4 rfl).2 87 rfl).trans (hd 4 rfl).1
      have e600 : ρ 93 = undef := ((hd 10 rfl).2 93 rfl).trans (hd 10 rfl).1
      refine W1 (OpT.pickT (.bool true) (e599.trans (bT h554)) rfl ?_)
      refine WL.nil ?_
      exact oneQ.mk ⟨rfl, st597⟩
     intro vals ρ603 w602 hv h0 st601
     replace st601 : St Z114 w119 w602 (Blk b147 47 [(.string x142.frm), (.string x142.to), (.int .i8 (4)), (.int .i64 (x142.rule))] :: L) := st601
     have e604 : ρ603 0 = v := (h0 0 rfl).trans hs133
     have e605 : ρ603 3 = v11 := (h0 3 rfl).trans hs134
     have e606 : ρ603 4 = (.int .i64 ((((edgesF (rs.take i)).length + j : Nat) : Int))) := (h0 4 rfl).trans hs132
     have e607 : ρ603 5 = (ni i) := (h0 5 rfl).trans hs135
     have e608 : ρ603 6 = (.bool (aggsB rl)) := (h0 6 rfl).trans hs136
     have e609 : ρ603 8 = (.bool (makesB rl)) := (h0 8 rfl).trans hs137
     have e610 : ρ603 9 = v96 := (h0 9 rfl).trans hs138
     have e611 : ρ603 10 = v118 := (h0 10 rfl).trans hs139
     have e612 : ρ603 11 = (ni j) := (h0 11 rfl).trans hs131
     have e613 : ρ603 94 = (.bool true) := ((hv 11 rfl).2 94 rfl).trans (hv 11 rfl).1
     clear hv h0
     refine Wnt ?_
     refine WC.condT e613 ?_
     refine Wsr ?_
     refine W1 (OpT.assign (.bool false) rfl ?_)
     refine Wnt ?_
     refine WC.ret <| thenQ_r <| blkQ_r <| thenQ_r <| loopQ_r <| blkQ_r <| blkQ_r <| thenQ_r <| loopQ_r <| blkQ_r <| thenQ_r <| retQ.one (.bool false) rfl ?_
     exfalso
     omega
    obtain ⟨xq4, hxq4⟩ : ∃ x, ((edgesF rs))[(edgesF (rs.take i)).length + j]? = some x := ⟨_, List.getElem?_eq_getElem (by omega)⟩
    obtain ⟨adq4, csq4, hEq4, hrq4, hRq4⟩ := Rl.sl_el hL122 hxq4
    have hRq4c := hRq4
    obtain rfl := hRq4
    refine WC.draw 12 (fun jj vv => match jj with | 0 => vv = (.int .i64 ((((edgesF (rs.take i)).length + j : Nat) : Int))) | 1 => vv = v11 | 2 => vv = (.int .i64 ((((edgesF rs).length : Nat) : Int))) | 3 => vv = (.bool (decide ((((edgesF rs).length : Nat) : Int) ≤ (((edgesF (rs.take i)).length + j : Nat) : Int)))) | 4 => vv = (.bool (decide ((((edgesF rs).length : Nat) : Int) ≤ (((edgesF (rs.take i)).length + j : Nat) : Int)))) | 5 => vv = v11 | 6 => vv = (.int .i64 ((((edgesF (rs.take i)).length + j : Nat) : Int))) | 7 => vv = (.pointer (some adq4)) | 8 => vv = (.agg #[(.string xq4.frm), (.string xq4.to), (.int .i8 (xq4.kind)), (.int .i64 (xq4.rule))]) | 9 => vv = (.agg #[(.string x142.frm), (.string x142.to), (.int .i8 (4)), (.int .i64 (x142.rule))]) | 10 => vv = (.bool (!decide ((⟨xq4.frm, xq4.to, xq4.kind, xq4.rule⟩ : Edg) = (⟨x142.frm, x142.to, 4, x142.rule⟩ : Edg)))) | 11 => vv = (.bool (!decide ((⟨xq4.frm, xq4.to, xq4.kind, xq4.rule⟩ : Edg) = (⟨x142.frm, x142.to, 4, x142.rule⟩ : Edg)))) | _ => True) (fun _ _ => []) st156 fmix (by kernel_rfl) ((obS (obS (obS (obS (obS (obS (obS (obS (obS (obS (obS (obS ob0 ?_) ?_) ?_) ?_) ?_) ?_) ?_) ?_) ?_) ?_) ?_) ?_)) ?_
    ·intro vals ρ w615 X hd h0 st614
     have e616 : ρ 4 = (.int .i64 ((((edgesF (rs.take i)).length + j : Nat) : Int))) := (h0 4 rfl).trans hs132
     refine W1 (OpT.move (.int .i64 ((((edgesF (rs.take i)).length + j : Nat) : Int))) e616 ?_)
     refine WL.nil ?_
     exact oneQ.mk ⟨rfl, st614⟩
    ·intro vals ρ w618 X hd h0 st617
     have e619 : ρ 3 = v11 := (h0 3 rfl).trans hs134
     refine W1 (OpT.move v11 e619 ?_)
     refine WL.nil ?_
     exact oneQ.mk ⟨rfl, st617⟩
    ·intro vals ρ w621 X hd h0 st620
     have e622 : ρ 84 = v11 := ((hd 1 rfl).2 84 rfl).trans (hd 1 rfl).1
     refine W1 (OpT.lenR rfl tu24 hL122 e622 ?_)
     refine WL.nil ?_
     exact oneQ.mk ⟨rfl, st620⟩
    ·intro vals ρ w624 X hd h0 st623
     have e625 : ρ 83 = (.int .i64 ((((edgesF (rs.take i)).length + j : Nat) : Int))) := ((hd 0 rfl).2 83 rfl).trans (hd 0 rfl).1
     have e626 : ρ 85 = (.int .i64 ((((edgesF rs).length : Nat) : Int))) := ((hd 2 rfl).2 85 rfl).trans (hd 2 rfl).1
     refine W1 (OpT.ige .i64 ((((edgesF (rs.take i)).length + j : Nat) : Int)) ((((edgesF rs).length : Nat) : Int)) e625 e626 ?_)
     refine WL.nil ?_
     exact oneQ.mk ⟨rfl, st623⟩
    ·intro vals ρ w628 X hd h0 st627
     have e629 : ρ 86 = (.bool (decide ((((edgesF rs).length : Nat) : Int) ≤ (((edgesF (rs.take i)).length + j : Nat) : Int)))) := ((hd 3 rfl).2 86 rfl).trans (hd 3 rfl).1
     refine W1 (OpT.move (.bool (decide ((((edgesF rs).length : Nat) : Int) ≤ (((edgesF (rs.take i)).length + j : Nat) : Int)))) e629 ?_)
     refine WL.nil ?_
     exact oneQ.mk ⟨rfl, st627⟩
    ·intro vals ρ w631 X hd h0 st630
     have e632 : ρ 3 = v11 := (h0 3 rfl).trans hs134
     have e633 : ρ 87 = (.bool (decide ((((edgesF rs).length : Nat) : Int) ≤ (((edgesF (rs.take i)).length + j : Nat) : Int)))) := ((hd 4 rfl).2 87 rfl).trans (hd 4 rfl).1
     refine W2 (dj := 87) (e633.trans (bF h554)) (OpT.move v11 e632 ?_)
     refine WL.nil ?_
     exact oneQ.mk ⟨rfl, st630⟩
    ·intro vals ρ w635 X hd h0 st634
     have e636 : ρ 4 = (.int .i64 ((((edgesF (rs.take i)).length + j : Nat) : Int))) := (h0 4 rfl).trans hs132
     have e637 : ρ 87 = (.bool (decide ((((edgesF rs).length : Nat) : Int) ≤ (((edgesF (rs.take i)).length + j : Nat) : Int)))) := ((hd 4 rfl).2 87 rfl).trans (hd 4 rfl).1
     refine W2 (dj := 87) (e637.trans (bF h554)) (OpT.move (.int .i64 ((((edgesF (rs.take i)).length + j : Nat) : Int))) e636 ?_)
     refine WL.nil ?_
     exact oneQ.mk ⟨rfl, st634⟩
    ·intro vals ρ w639 X hd h0 st638
     have e640 : ρ 87 = (.bool (decide ((((edgesF rs).length : Nat) : Int) ≤ (((edgesF (rs.take i)).length + j : Nat) : Int)))) := ((hd 4 rfl).2 87 rfl).trans (hd 4 rfl).1
     have e641 : ρ 88 = v11 := ((hd 5 rfl).2 88 rfl).trans (hd 5 rfl).1
     have e642 : ρ 89 = (.int .i64 ((((edgesF (rs.take i)).length + j : Nat) : Int))) := ((hd 6 rfl).2 89 rfl).trans (hd 6 rfl).1
     refine W2 (dj := 87) (e640.trans (bF h554)) (OpT.idxE tu24 ts47 e641 .i64 ((edgesF (rs.take i)).length + j) e642 hEq4 ?_)
     refine WL.nil ?_
     exact oneQ.mk ⟨rfl, st638⟩
    ·intro vals ρ w649 X hd h0 st648
     have e650 : ρ 87 = (.bool (decide ((((edgesF rs).length : Nat) : Int) ≤ (((edgesF (rs.take i)).length + j : Nat) : Int)))) := ((hd 4 rfl).2 87 rfl).trans (hd 4 rfl).1
     have e651 : ρ 90 = (.pointer (some adq4)) := ((hd 7 rfl).2 90 rfl).trans (hd 7 rfl).1
     refine W2 (dj := 87) (e650.trans (bF h554)) (OpT.loadA adq4 4 [(.string xq4.frm), (.string xq4.to), (.int .i8 (xq4.kind)), (.int .i64 (xq4.rule))] ta47 ts47 e651 ((hrq4.at st648).part 0 4) rfl ?_)
     refine WL.nil ?_
     exact oneQ.mk ⟨rfl, st648⟩
    ·intro vals ρ w653 X hd h0 st652
     have e654 : ρ 12 = (pt b147 0) := (h0 12 rfl).trans rfl
     have e655 : ρ 87 = (.bool (decide ((((edgesF rs).length : Nat) : Int) ≤ (((edgesF (rs.take i)).length + j : Nat) : Int)))) := ((hd 4 rfl).2 87 rfl).trans (hd 4 rfl).1
     refine W2 (dj := 87) (e655.trans (bF h554)) (OpT.loadA ⟨b147, 0, none⟩ 4 [(.string x142.frm), (.string x142.to), (.int .i8 (4)), (.int .i64 (x142.rule))] ta47 ts47 e654 ((st652.rowB (i := 0) rfl).part 0 4) rfl ?_)
     refine WL.nil ?_
     exact oneQ.mk ⟨rfl, st652⟩
    ·intro vals ρ w657 X hd h0 st656
     have e658 : ρ 87 = (.bool (decide ((((edgesF rs).length : Nat) : Int) ≤ (((edgesF (rs.take i)).length + j : Nat) : Int)))) := ((hd 4 rfl).2 87 rfl).trans (hd 4 rfl).1
     have e659 : ρ 91 = (.agg #[(.string xq4.frm), (.string xq4.to), (.int .i8 (xq4.kind)), (.int .i64 (xq4.rule))]) := ((hd 8 rfl).2 91 rfl).trans (hd 8 rfl).1
     have e660 : ρ 92 = (.agg #[(.string x142.frm), (.string x142.to), (.int .i8 (4)), (.int .i64 (x142.rule))]) := ((hd 9 rfl).2 92 rfl).trans (hd 9 rfl).1
     refine W2 (dj := 87) (e658.trans (bF h554)) (OpT.aggNe [(.string xq4.frm), (.string xq4.to), (.int .i8 (xq4.kind)), (.int .i64 (xq4.rule))] [(.string x142.frm), (.string x142.to), (.int .i8 (4)), (.int .i64 (x142.rule))] (decide ((⟨xq4.frm, xq4.to, xq4.kind, xq4.rule⟩ : Edg) = (⟨x142.frm, x142.to, 4, x142.rule⟩ : Edg))) tg47 (fun w => eqEdg 9998 w (⟨xq4.frm, xq4.to, xq4.kind, xq4.rule⟩ : Edg) (⟨x142.frm, x142.to, 4, x142.rule⟩ : Edg)) e659 e660 ?_)
     refine WL.nil ?_
     exact oneQ.mk ⟨rfl, st656⟩
    ·intro vals ρ w662 X hd h0 st661
     have e663 : ρ 87 = (.bool (decide ((((edgesF rs).length : Nat) : Int) ≤ (((edgesF (rs.take i)).length + j : Nat) : Int)))) := ((hd 4 rfl).2 87 rfl).trans (hd 4 rfl).1
     have e664 : ρ 93 = (.bool (!decide ((⟨xq4.frm, xq4.to, xq4.kind, xq4.rule⟩ : Edg) = (⟨x142.frm, x142.to, 4, x142.rule⟩ : Edg)))) := ((hd 10 rfl).2 93 rfl).trans (hd 10 rfl).1
     refine W1 (OpT.pickF (.bool (!decide ((⟨xq4.frm, xq4.to, xq4.kind, xq4.rule⟩ : Edg) = (⟨x142.frm, x142.to, 4, x142.rule⟩ : Edg)))) (e663.trans (bF h554)) e664 ?_)
     refine WL.nil ?_
     exact oneQ.mk ⟨rfl, st661⟩
    intro vals ρ667 w666 hv h0 st665
    replace st665 : St Z114 w119 w666 (Blk b147 47 [(.string x142.frm), (.string x142.to), (.int .i8 (4)), (.int .i64 (x142.rule))] :: L) := st665
    have e668 : ρ667 0 = v := (h0 0 rfl).trans hs133
    have e669 : ρ667 3 = v11 := (h0 3 rfl).trans hs134
    have e670 : ρ667 4 = (.int .i64 ((((edgesF (rs.take i)).length + j : Nat) : Int))) := (h0 4 rfl).trans hs132
    have e671 : ρ667 5 = (ni i) := (h0 5 rfl).trans hs135
    have e672 : ρ667 6 = (.bool (aggsB rl)) := (h0 6 rfl).trans hs136
    have e673 : ρ667 8 = (.bool (makesB rl)) := (h0 8 rfl).trans hs137
    have e674 : ρ667 9 = v96 := (h0 9 rfl).trans hs138
    have e675 : ρ667 10 = v118 := (h0 10 rfl).trans hs139
    have e676 : ρ667 11 = (ni j) := (h0 11 rfl).trans hs131
    have e677 : ρ667 94 = (.bool (!decide ((⟨xq4.frm, xq4.to, xq4.kind, xq4.rule⟩ : Edg) = (⟨x142.frm, x142.to, 4, x142.rule⟩ : Edg)))) := ((hv 11 rfl).2 94 rfl).trans (hv 11 rfl).1
    clear hv h0
    refine Wnt ?_
    refine WC.cond ((!decide ((⟨xq4.frm, xq4.to, xq4.kind, xq4.rule⟩ : Edg) = (⟨x142.frm, x142.to, 4, x142.rule⟩ : Edg)))) e677 (fun h678 => ?_) (fun h678 => ?_)
    ·refine WC.seq ?_
     refine WC.region ?_
     refine W1 (OpT.assign (.bool false) rfl ?_)
     refine Wnt ?_
     refine WC.ret <| thenQ_r <| blkQ_r <| thenQ_r <| loopQ_r <| blkQ_r <| blkQ_r <| thenQ_r <| loopQ_r <| blkQ_r <| thenQ_r <| retQ.one (.bool false) rfl ?_
     exact absurd (show (⟨xq4.frm, xq4.to, xq4.kind, xq4.rule⟩ : Edg) = (⟨x142.frm, x142.to, 4, x142.rule⟩ : Edg) from (kinds_ok hrl hx142 hx420 hxq4).trans (by simp only [kindOf]; simp [h154, h157, h425])) (of_decide_eq_false (by simpa only [Bool.not_eq_true'] using h678))
    refine WC.skip ?_
    refine thenQ_n ?_
    refine WC.region ?_
    refine W1 (OpT.move (.int .i64 ((((edgesF (rs.take i)).length + j : Nat) : Int))) e670 ?_)
    refine W1 (OpT.iadd .i64 ((((edgesF (rs.take i)).length + j : Nat) : Int)) (1) ((((edgesF (rs.take i)).length + j + 1 : Nat) : Int)) rfl rfl (wadd (a := (edgesF (rs.take i)).length + j) (b := 1) (by omega)) ?_)
    refine W1 (OpT.assign (.int .i64 ((((edgesF (rs.take i)).length + j + 1 : Nat) : Int))) rfl ?_)
    refine WL.nil ?_
    refine blkQ_n ?_
    refine thenQ_n ?_
    refine WC.region ?_
    refine W1 (OpT.move (ni j) e676 ?_)
    refine W1 (OpT.iadd .i64 (((j : Nat) : Int)) (1) (((j + 1 : Nat) : Int)) rfl rfl (wadd (a := j) (b := 1) (by omega)) ?_)
    refine W1 (OpT.assign (ni (j + 1)) rfl ?_)
    refine WL.nil ?_
    have st679 : St Z114 w119 w666 (L) := St.selT [Blk b147 47 [(.string x142.frm), (.string x142.to), (.int .i8 (4)), (.int .i64 (x142.rule))]] [] rfl (by decide) st665
    exact loopQ_n _ (by omega) ⟨j + 1, rfl, by omega, rfl, rfl, e668, e669, e671, e672, e673, e674, e675, st679⟩
   refine WC.skip ?_
   refine thenQ_n ?_
   refine WC.seq ?_
   refine Wsr ?_
   refine W1 (OpT.move (.bool (aggsB rl)) hs136 ?_)
   refine Wnt ?_
   refine WC.cond ((aggsB rl)) rfl (fun h680 => ?_) (fun h680 => ?_)
   ·refine WC.region ?_
    refine W1 (OpT.field 2 ⟨b147, 0, none⟩ ⟨b147, 2, none⟩ tf47_2 rfl rfl ?_)
    refine WL.stepN (OpT.storeS st153 0 (.int .i8 (3)) rfl ts45 rfl rfl rfl rfl rfl (fun w681 st682 => ?_))
    refine Wnt ?_
    refine WC.seq ?_
    refine Wsr ?_
    refine W1 (OpT.move v118 hs139 ?_)
    refine W1 (OpT.move (ni j) hs131 ?_)
    obtain ⟨x683, hx683⟩ : ∃ x, ((lno rl))[j]? = some x := ⟨_, List.getElem?_eq_getElem (by omega)⟩
    refine W1 (OpT.idxX tu43 ts4 hs116 rfl .i64 (j) rfl hx683 (fun ad684 cs685 hr686 hR687 => ?_))
    have hR687c := hR687
    obtain rfl := hR687
    refine W1 (OpT.loadS ad684 (.bool x683) ta4 rfl (hr686.cell st682 (j := 0) rfl) ?_)
    refine Wnt ?_
    refine WC.cond (x683) rfl (fun h688 => ?_) (fun h688 => ?_)
    ·refine WC.region ?_
     refine W1 (OpT.field 2 ⟨b147, 0, none⟩ ⟨b147, 2, none⟩ tf47_2 rfl rfl ?_)
     refine WL.stepN (OpT.storeS st682 0 (.int .i8 (2)) rfl ts45 rfl rfl rfl rfl rfl (fun w689 st690 => ?_))
     refine Wnt ?_
     refine WC.seq ?_
     refine WC.seq ?_
     have hLa := len_at hrl (k := j) (by omega)
     by_cases h691 : (((edgesF rs).length : Nat) : Int) ≤ (((edgesF (rs.take i)).length + j : Nat) : Int)
     ·refine WC.draw 12 (fun jj vv => match jj with | 0 => vv = (.int .i64 ((((edgesF (rs.take i)).length + j : Nat) : Int))) | 1 => vv = v11 | 2 => vv = (.int .i64 ((((edgesF rs).length : Nat) : Int))) | 3 => vv = (.bool (decide ((((edgesF rs).length : Nat) : Int) ≤ (((edgesF (rs.take i)).length + j : Nat) : Int)))) | 4 => vv = (.bool (decide ((((edgesF rs).length : Nat) : Int) ≤ (((edgesF (rs.take i)).length + j : Nat) : Int)))) | 5 => vv = undef | 6 => vv = undef | 7 => vv = undef | 8 => vv = undef | 9 => vv = undef | 10 => vv = undef | 11 => vv = (.bool true) | _ => True) (fun _ _ => []) st690 fmix (by kernel_rfl) ((obS (obS (obS (obS (obS (obS (obS (obS (obS (obS (obS (obS ob0 ?_) ?_) ?_) ?_) ?_) ?_) ?_) ?_) ?_) ?_) ?_) ?_)) ?_
      ·intro vals ρ w693 X hd h0 st692
       have e694 : ρ 4 = (.int .i64 ((((edgesF (rs.take i)).length + j : Nat) : Int))) := (h0 4 rfl).trans hs132
       refine W1 (OpT.move (.int .i64 ((((edgesF (rs.take i)).length + j : Nat) : Int))) e694 ?_)
       refine WL.nil ?_
       exact oneQ.mk ⟨rfl, st692⟩
      ·intro vals ρ w696 X hd h0 st695
       have e697 : ρ 3 = v11 := (h0 3 rfl).trans hs134
       refine W1 (OpT.move v11 e697 ?_)
       refine WL.nil ?_
       exact oneQ.mk ⟨rfl, st695⟩
      ·intro vals ρ w699 X hd h0 st698
       have e700 : ρ 84 = v11 := ((hd 1 rfl).2 84 rfl).trans (hd 1 rfl).1
       refine W1 (OpT.lenR rfl tu24 hL122 e700 ?_)
       refine WL.nil ?_
       exact oneQ.mk ⟨rfl, st698⟩
      ·intro vals ρ w702 X hd h0 st701
       have e703 : ρ 83 = (.int .i64 ((((edgesF (rs.take i)).length + j : Nat) : Int))) := ((hd 0 rfl).2 83 rfl).trans (hd 0 rfl).1
       have e704 : ρ 85 = (.int .i64 ((((edgesF rs).length : Nat) : Int))) := ((hd 2 rfl).2 85 rfl).trans (hd 2 rfl).1
       refine W1 (OpT.ige .i64 ((((edgesF (rs.take i)).length + j : Nat) : Int)) ((((edgesF rs).length : Nat) : Int)) e703 e704 ?_)
       refine WL.nil ?_
       exact oneQ.mk ⟨rfl, st701⟩
      ·intro vals ρ w706 X hd h0 st705
       have e707 : ρ 86 = (.bool (decide ((((edgesF rs).length : Nat) : Int) ≤ (((edgesF (rs.take i)).length + j : Nat) : Int)))) := ((hd 3 rfl).2 86 rfl).trans (hd 3 rfl).1
       refine W1 (OpT.move (.bool (decide ((((edgesF rs).length : Nat) : Int) ≤ (((edgesF (rs.take i)).length + j : Nat) : Int)))) e707 ?_)
       refine WL.nil ?_
       exact oneQ.mk ⟨rfl, st705⟩
      ·intro vals ρ w709 X hd h0 st708
       have e710 : ρ 3 = v11 := (h0 3 rfl).trans hs134
       have e711 : ρ 87 = (.bool (decide ((((edgesF rs).length : Nat) : Int) ≤ (((edgesF (rs.take i)).length + j : Nat) : Int)))) := ((hd 4 rfl).2 87 rfl).trans (hd 4 rfl).1
       refine WL.pass (dj := 87) (c := true) rfl rfl rfl (e711.trans (bT h691)) rfl ?_
       refine WL.nil ?_
       exact oneQ.mk ⟨rfl, st708⟩
      ·intro vals ρ w713 X hd h0 st712
       have e714 : ρ 4 = (.int .i64 ((((edgesF (rs.take i)).length + j : Nat) : Int))) := (h0 4 rfl).trans hs132
       have e715 : ρ 87 = (.bool (decide ((((edgesF rs).length : Nat) : Int) ≤ (((edgesF (rs.take i)).length + j : Nat) : Int)))) := ((hd 4 rfl).2 87 rfl).trans (hd 4 rfl).1
       refine WL.pass (dj := 87) (c := true) rfl rfl rfl (e715.trans (bT h691)) rfl ?_
       refine WL.nil ?_
       exact oneQ.mk ⟨rfl, st712⟩
      ·intro vals ρ w717 X hd h0 st716
       have e718 : ρ 87 = (.bool (decide ((((edgesF rs).length : Nat) : Int) ≤ (((edgesF (rs.take i)).length + j : Nat) : Int)))) := ((hd 4 rfl).2 87 rfl).trans (hd 4 rfl).1
       have e719 : ρ 88 = undef := ((hd 5 rfl).2 88 rfl).trans (hd 5 rfl).1
       have e720 : ρ 89 = undef := ((hd 6 rfl).2 89 rfl).trans (hd 6 rfl).1
       refine WL.pass (dj := 87) (c := true) rfl rfl rfl (e718.trans (bT h691)) rfl ?_
       refine WL.nil ?_
       exact oneQ.mk ⟨rfl, st716⟩
      ·intro vals ρ w722 X hd h0 st721
       have e723 : ρ 87 = (.bool (decide ((((edgesF rs).length : Nat) : Int) ≤ (((edgesF (rs.take i)).length + j : Nat) : Int)))) := ((hd 4 rfl).2 87 rfl).trans (hd 4 rfl).1
       have e724 : ρ 90 = undef := ((hd 7 rfl).2 90 rfl).trans (hd 7 rfl).1
       refine WL.pass (dj := 87) (c := true) rfl rfl rfl (e723.trans (bT h691)) rfl ?_
       refine WL.nil ?_
       exact oneQ.mk ⟨rfl, st721⟩
      ·intro vals ρ w726 X hd h0 st725
       have e727 : ρ 12 = (pt b147 0) := (h0 12 rfl).trans rfl
       have e728 : ρ 87 = (.bool (decide ((((edgesF rs).length : Nat) : Int) ≤ (((edgesF (rs.take i)).length + j : Nat) : Int)))) := ((hd 4 rfl).2 87 rfl).trans (hd 4 rfl).1
       refine WL.pass (dj := 87) (c := true) rfl rfl rfl (e728.trans (bT h691)) rfl ?_
       refine WL.nil ?_
       exact oneQ.mk ⟨rfl, st725⟩
      ·intro vals ρ w730 X hd h0 st729
       have e731 : ρ 87 = (.bool (decide ((((edgesF rs).length : Nat) : Int) ≤ (((edgesF (rs.take i)).length + j : Nat) : Int)))) := ((hd 4 rfl).2 87 rfl).trans (hd 4 rfl).1
       have e732 : ρ 91 = undef := ((hd 8 rfl).2 91 rfl).trans (hd 8 rfl).1
       have e733 : ρ 92 = undef := ((hd 9 rfl).2 92 rfl).trans (hd 9 rfl).1
       refine WL.pass (dj := 87) (c := true) rfl rfl rfl (e731.trans (bT h691)) rfl ?_
       refine WL.nil ?_
       exact oneQ.mk ⟨rfl, st729⟩
      ·intro vals ρ w735 X hd h0 st734
       have e736 : ρ 87 = (.bool (decide ((((edgesF rs).length : Nat) : Int) ≤ (((edgesF (rs.take i)).length + j : Nat) : Int)))) := ((hd 4 rfl).2 87 rfl).trans (hd 4 rfl).1
       have e737 : ρ 93 = undef := ((hd 10 rfl).2 93 rfl).trans (hd 10 rfl).1
       refine W1 (OpT.pickT (.bool true) (e736.trans (bT h691)) rfl ?_)
       refine WL.nil ?_
       exact oneQ.mk ⟨rfl, st734⟩
      intro vals ρ740 w739 hv h0 st738
      replace st738 : St Z114 w119 w739 (Blk b147 47 [(.string x142.frm), (.string x142.to), (.int .i8 (2)), (.int .i64 (x142.rule))] :: L) := st738
      have e741 : ρ740 0 = v := (h0 0 rfl).trans hs133
      have e742 : ρ740 3 = v11 := (h0 3 rfl).trans hs134
      have e743 : ρ740 4 = (.int .i64 ((((edgesF (rs.take i)).length + j : Nat) : Int))) := (h0 4 rfl).trans hs132
      have e744 : ρ740 5 = (ni i) := (h0 5 rfl).trans hs135
      have e745 : ρ740 6 = (.bool (aggsB rl)) := (h0 6 rfl).trans hs136
      have e746 : ρ740 8 = (.bool (makesB rl)) := (h0 8 rfl).trans hs137
      have e747 : ρ740 9 = v96 := (h0 9 rfl).trans hs138
      have e748 : ρ740 10 = v118 := (h0 10 rfl).trans hs139
      have e749 : ρ740 11 = (ni j) := (h0 11 rfl).trans hs131
      have e750 : ρ740 94 = (.bool true) := ((hv 11 rfl).2 94 rfl).trans (hv 11 rfl).1
      clear hv h0
      refine Wnt ?_
      refine WC.condT e750 ?_
      refine Wsr ?_
      refine W1 (OpT.assign (.bool false) rfl ?_)
      refine Wnt ?_
      refine WC.ret <| thenQ_r <| blkQ_r <| thenQ_r <| loopQ_r <| blkQ_r <| blkQ_r <| thenQ_r <| loopQ_r <| blkQ_r <| thenQ_r <| retQ.one (.bool false) rfl ?_
      exfalso
      omega
     obtain ⟨xq5, hxq5⟩ : ∃ x, ((edgesF rs))[(edgesF (rs.take i)).length + j]? = some x := ⟨_, List.getElem?_eq_getElem (by omega)⟩
     obtain ⟨adq5, csq5, hEq5, hrq5, hRq5⟩ := Rl.sl_el hL122 hxq5
     have hRq5c := hRq5
     obtain rfl := hRq5
     refine WC.draw 12 (fun jj vv => match jj with | 0 => vv = (.int .i64 ((((edgesF (rs.take i)).length + j : Nat) : Int))) | 1 => vv = v11 | 2 => vv = (.int .i64 ((((edgesF rs).length : Nat) : Int))) | 3 => vv = (.bool (decide ((((edgesF rs).length : Nat) : Int) ≤ (((edgesF (rs.take i)).length + j : Nat) : Int)))) | 4 => vv = (.bool (decide ((((edgesF rs).length : Nat) : Int) ≤ (((edgesF (rs.take i)).length + j : Nat) : Int)))) | 5 => vv = v11 | 6 => vv = (.int .i64 ((((edgesF (rs.take i)).length + j : Nat) : Int))) | 7 => vv = (.pointer (some adq5)) | 8 => vv = (.agg #[(.string xq5.frm), (.string xq5.to), (.int .i8 (xq5.kind)), (.int .i64 (xq5.rule))]) | 9 => vv = (.agg #[(.string x142.frm), (.string x142.to), (.int .i8 (2)), (.int .i64 (x142.rule))]) | 10 => vv = (.bool (!decide ((⟨xq5.frm, xq5.to, xq5.kind, xq5.rule⟩ : Edg) = (⟨x142.frm, x142.to, 2, x142.rule⟩ : Edg)))) | 11 => vv = (.bool (!decide ((⟨xq5.frm, xq5.to, xq5.kind, xq5.rule⟩ : Edg) = (⟨x142.frm, x142.to, 2, x142.rule⟩ : Edg)))) | _ => True) (fun _ _ => []) st690 fmix (by kernel_rfl) ((obS (obS (obS (obS (obS (obS (obS (obS (obS (obS (obS (obS ob0 ?_) ?_) ?_) ?_) ?_) ?_) ?_) ?_) ?_) ?_) ?_) ?_)) ?_
     ·intro vals ρ w752 X hd h0 st751
      have e753 : ρ 4 = (.int .i64 ((((edgesF (rs.take i)).length + j : Nat) : Int))) := (h0 4 rfl).trans hs132
      refine W1 (OpT.move (.int .i64 ((((edgesF (rs.take i)).length + j : Nat) : Int))) e753 ?_)
      refine WL.nil ?_
      exact oneQ.mk ⟨rfl, st751⟩
     ·intro vals ρ w755 X hd h0 st754
      have e756 : ρ 3 = v11 := (h0 3 rfl).trans hs134
      refine W1 (OpT.move v11 e756 ?_)
      refine WL.nil ?_
      exact oneQ.mk ⟨rfl, st754⟩
     ·intro vals ρ w758 X hd h0 st757
      have e759 : ρ 84 = v11 := ((hd 1 rfl).2 84 rfl).trans (hd 1 rfl).1
      refine W1 (OpT.lenR rfl tu24 hL122 e759 ?_)
      refine WL.nil ?_
      exact oneQ.mk ⟨rfl, st757⟩
     ·intro vals ρ w761 X hd h0 st760
      have e762 : ρ 83 = (.int .i64 ((((edgesF (rs.take i)).length + j : Nat) : Int))) := ((hd 0 rfl).2 83 rfl).trans (hd 0 rfl).1
      have e763 : ρ 85 = (.int .i64 ((((edgesF rs).length : Nat) : Int))) := ((hd 2 rfl).2 85 rfl).trans (hd 2 rfl).1
      refine W1 (OpT.ige .i64 ((((edgesF (rs.take i)).length + j : Nat) : Int)) ((((edgesF rs).length : Nat) : Int)) e762 e763 ?_)
      refine WL.nil ?_
      exact oneQ.mk ⟨rfl, st760⟩
     ·intro vals ρ w765 X hd h0 st764
      have e766 : ρ 86 = (.bool (decide ((((edgesF rs).length : Nat) : Int) ≤ (((edgesF (rs.take i)).length + j : Nat) : Int)))) := ((hd 3 rfl).2 86 rfl).trans (hd 3 rfl).1
      refine W1 (OpT.move (.bool (decide ((((edgesF rs).length : Nat) : Int) ≤ (((edgesF (rs.take i)).length + j : Nat) : Int)))) e766 ?_)
      refine WL.nil ?_
      exact oneQ.mk ⟨rfl, st764⟩
     ·intro vals ρ w768 X hd h0 st767
      have e769 : ρ 3 = v11 := (h0 3 rfl).trans hs134
      have e770 : ρ 87 = (.bool (decide ((((edgesF rs).length : Nat) : Int) ≤ (((edgesF (rs.take i)).length + j : Nat) : Int)))) := ((hd 4 rfl).2 87 rfl).trans (hd 4 rfl).1
      refine W2 (dj := 87) (e770.trans (bF h691)) (OpT.move v11 e769 ?_)
      refine WL.nil ?_
      exact oneQ.mk ⟨rfl, st767⟩
     ·intro vals ρ w772 X hd h0 st771
      have e773 : ρ 4 = (.int .i64 ((((edgesF (rs.take i)).length + j : Nat) : Int))) := (h0 4 rfl).trans hs132
      have e774 : ρ 87 = (.bool (decide ((((edgesF rs).length : Nat) : Int) ≤ (((edgesF (rs.take i)).length + j : Nat) : Int)))) := ((hd 4 rfl).2 87 rfl).trans (hd 4 rfl).1
      refine W2 (dj := 87) (e774.trans (bF h691)) (OpT.move (.int .i64 ((((edgesF (rs.take i)).length + j : Nat) : Int))) e773 ?_)
      refine WL.nil ?_
      exact oneQ.mk ⟨rfl, st771⟩
     ·intro vals ρ w776 X hd h0 st775
      have e777 : ρ 87 = (.bool (decide ((((edgesF rs).length : Nat) : Int) ≤ (((edgesF (rs.take i)).length + j : Nat) : Int)))) := ((hd 4 rfl).2 87 rfl).trans (hd 4 rfl).1
      have e778 : ρ 88 = v11 := ((hd 5 rfl).2 88 rfl).trans (hd 5 rfl).1
      have e779 : ρ 89 = (.int .i64 ((((edgesF (rs.take i)).length + j : Nat) : Int))) := ((hd 6 rfl).2 89 rfl).trans (hd 6 rfl).1
      refine W2 (dj := 87) (e777.trans (bF h691)) (OpT.idxE tu24 ts47 e778 .i64 ((edgesF (rs.take i)).length + j) e779 hEq5 ?_)
      refine WL.nil ?_
      exact oneQ.mk ⟨rfl, st775⟩
     ·intro vals ρ w786 X hd h0 st785
      have e787 : ρ 87 = (.bool (decide ((((edgesF rs).length : Nat) : Int) ≤ (((edgesF (rs.take i)).length + j : Nat) : Int)))) := ((hd 4 rfl).2 87 rfl).trans (hd 4 rfl).1
      have e788 : ρ 90 = (.pointer (some adq5)) := ((hd 7 rfl).2 90 rfl).trans (hd 7 rfl).1
      refine W2 (dj := 87) (e787.trans (bF h691)) (OpT.loadA adq5 4 [(.string xq5.frm), (.string xq5.to), (.int .i8 (xq5.kind)), (.int .i64 (xq5.rule))] ta47 ts47 e788 ((hrq5.at st785).part 0 4) rfl ?_)
      refine WL.nil ?_
      exact oneQ.mk ⟨rfl, st785⟩
     ·intro vals ρ w790 X hd h0 st789
      have e791 : ρ 12 = (pt b147 0) := (h0 12 rfl).trans rfl
      have e792 : ρ 87 = (.bool (decide ((((edgesF rs).length : Nat) : Int) ≤ (((edgesF (rs.take i)).length + j : Nat) : Int)))) := ((hd 4 rfl).2 87 rfl).trans (hd 4 rfl).1
      refine W2 (dj := 87) (e792.trans (bF h691)) (OpT.loadA ⟨b147, 0, none⟩ 4 [(.string x142.frm), (.string x142.to), (.int .i8 (2)), (.int .i64 (x142.rule))] ta47 ts47 e791 ((st789.rowB (i := 0) rfl).part 0 4) rfl ?_)
      refine WL.nil ?_
      exact oneQ.mk ⟨rfl, st789⟩
     ·intro vals ρ w794 X hd h0 st793
      have e795 : ρ 87 = (.bool (decide ((((edgesF rs).length : Nat) : Int) ≤ (((edgesF (rs.take i)).length + j : Nat) : Int)))) := ((hd 4 rfl).2 87 rfl).trans (hd 4 rfl).1
      have e796 : ρ 91 = (.agg #[(.string xq5.frm), (.string xq5.to), (.int .i8 (xq5.kind)), (.int .i64 (xq5.rule))]) := ((hd 8 rfl).2 91 rfl).trans (hd 8 rfl).1
      have e797 : ρ 92 = (.agg #[(.string x142.frm), (.string x142.to), (.int .i8 (2)), (.int .i64 (x142.rule))]) := ((hd 9 rfl).2 92 rfl).trans (hd 9 rfl).1
      refine W2 (dj := 87) (e795.trans (bF h691)) (OpT.aggNe [(.string xq5.frm), (.string xq5.to), (.int .i8 (xq5.kind)), (.int .i64 (xq5.rule))] [(.string x142.frm), (.string x142.to), (.int .i8 (2)), (.int .i64 (x142.rule))] (decide ((⟨xq5.frm, xq5.to, xq5.kind, xq5.rule⟩ : Edg) = (⟨x142.frm, x142.to, 2, x142.rule⟩ : Edg))) tg47 (fun w => eqEdg 9998 w (⟨xq5.frm, xq5.to, xq5.kind, xq5.rule⟩ : Edg) (⟨x142.frm, x142.to, 2, x142.rule⟩ : Edg)) e796 e797 ?_)
      refine WL.nil ?_
      exact oneQ.mk ⟨rfl, st793⟩
     ·intro vals ρ w799 X hd h0 st798
      have e800 : ρ 87 = (.bool (decide ((((edgesF rs).length : Nat) : Int) ≤ (((edgesF (rs.take i)).length + j : Nat) : Int)))) := ((hd 4 rfl).2 87 rfl).trans (hd 4 rfl).1
      have e801 : ρ 93 = (.bool (!decide ((⟨xq5.frm, xq5.to, xq5.kind, xq5.rule⟩ : Edg) = (⟨x142.frm, x142.to, 2, x142.rule⟩ : Edg)))) := ((hd 10 rfl).2 93 rfl).trans (hd 10 rfl).1
      refine W1 (OpT.pickF (.bool (!decide ((⟨xq5.frm, xq5.to, xq5.kind, xq5.rule⟩ : Edg) = (⟨x142.frm, x142.to, 2, x142.rule⟩ : Edg)))) (e800.trans (bF h691)) e801 ?_)
      refine WL.nil ?_
      exact oneQ.mk ⟨rfl, st798⟩
     intro vals ρ804 w803 hv h0 st802
     replace st802 : St Z114 w119 w803 (Blk b147 47 [(.string x142.frm), (.string x142.to), (.int .i8 (2)), (.int .i64 (x142.rule))] :: L) := st802
     have e805 : ρ804 0 = v := (h0 0 rfl).trans hs133
     have e806 : ρ804 3 = v11 := (h0 3 rfl).trans hs134
     have e807 : ρ804 4 = (.int .i64 ((((edgesF (rs.take i)).length + j : Nat) : Int))) := (h0 4 rfl).trans hs132
     have e808 : ρ804 5 = (ni i) := (h0 5 rfl).trans hs135
     have e809 : ρ804 6 = (.bool (aggsB rl)) := (h0 6 rfl).trans hs136
     have e810 : ρ804 8 = (.bool (makesB rl)) := (h0 8 rfl).trans hs137
     have e811 : ρ804 9 = v96 := (h0 9 rfl).trans hs138
     have e812 : ρ804 10 = v118 := (h0 10 rfl).trans hs139
     have e813 : ρ804 11 = (ni j) := (h0 11 rfl).trans hs131
     have e814 : ρ804 94 = (.bool (!decide ((⟨xq5.frm, xq5.to, xq5.kind, xq5.rule⟩ : Edg) = (⟨x142.frm, x142.to, 2, x142.rule⟩ : Edg)))) := ((hv 11 rfl).2 94 rfl).trans (hv 11 rfl).1
     clear hv h0
     refine Wnt ?_
     refine WC.cond ((!decide ((⟨xq5.frm, xq5.to, xq5.kind, xq5.rule⟩ : Edg) = (⟨x142.frm, x142.to, 2, x142.rule⟩ : Edg)))) e814 (fun h815 => ?_) (fun h815 => ?_)
     ·refine WC.seq ?_
      refine WC.region ?_
      refine W1 (OpT.assign (.bool false) rfl ?_)
      refine Wnt ?_
      refine WC.ret <| thenQ_r <| blkQ_r <| thenQ_r <| loopQ_r <| blkQ_r <| blkQ_r <| thenQ_r <| loopQ_r <| blkQ_r <| thenQ_r <| retQ.one (.bool false) rfl ?_
      exact absurd (show (⟨xq5.frm, xq5.to, xq5.kind, xq5.rule⟩ : Edg) = (⟨x142.frm, x142.to, 2, x142.rule⟩ : Edg) from (kinds_ok hrl hx142 hx683 hxq5).trans (by simp only [kindOf]; simp [h154, h680, h688])) (of_decide_eq_false (by simpa only [Bool.not_eq_true'] using h815))
     refine WC.skip ?_
     refine thenQ_n ?_
     refine WC.region ?_
     refine W1 (OpT.move (.int .i64 ((((edgesF (rs.take i)).length + j : Nat) : Int))) e807 ?_)
     refine W1 (OpT.iadd .i64 ((((edgesF (rs.take i)).length + j : Nat) : Int)) (1) ((((edgesF (rs.take i)).length + j + 1 : Nat) : Int)) rfl rfl (wadd (a := (edgesF (rs.take i)).length + j) (b := 1) (by omega)) ?_)
     refine W1 (OpT.assign (.int .i64 ((((edgesF (rs.take i)).length + j + 1 : Nat) : Int))) rfl ?_)
     refine WL.nil ?_
     refine blkQ_n ?_
     refine thenQ_n ?_
     refine WC.region ?_
     refine W1 (OpT.move (ni j) e813 ?_)
     refine W1 (OpT.iadd .i64 (((j : Nat) : Int)) (1) (((j + 1 : Nat) : Int)) rfl rfl (wadd (a := j) (b := 1) (by omega)) ?_)
     refine W1 (OpT.assign (ni (j + 1)) rfl ?_)
     refine WL.nil ?_
     have st816 : St Z114 w119 w803 (L) := St.selT [Blk b147 47 [(.string x142.frm), (.string x142.to), (.int .i8 (2)), (.int .i64 (x142.rule))]] [] rfl (by decide) st802
     exact loopQ_n _ (by omega) ⟨j + 1, rfl, by omega, rfl, rfl, e805, e806, e808, e809, e810, e811, e812, st816⟩
    refine WC.skip ?_
    refine thenQ_n ?_
    refine WC.seq ?_
    refine WC.seq ?_
    have hLa := len_at hrl (k := j) (by omega)
    by_cases h817 : (((edgesF rs).length : Nat) : Int) ≤ (((edgesF (rs.take i)).length + j : Nat) : Int)
    ·refine WC.draw 12 (fun jj vv => match jj with | 0 => vv = (.int .i64 ((((edgesF (rs.take i)).length + j : Nat) : Int))) | 1 => vv = v11 | 2 => vv = (.int .i64 ((((edgesF rs).length : Nat) : Int))) | 3 => vv = (.bool (decide ((((edgesF rs).length : Nat) : Int) ≤ (((edgesF (rs.take i)).length + j : Nat) : Int)))) | 4 => vv = (.bool (decide ((((edgesF rs).length : Nat) : Int) ≤ (((edgesF (rs.take i)).length + j : Nat) : Int)))) | 5 => vv = undef | 6 => vv = undef | 7 => vv = undef | 8 => vv = undef | 9 => vv = undef | 10 => vv = undef | 11 => vv = (.bool true) | _ => True) (fun _ _ => []) st682 fmix (by kernel_rfl) ((obS (obS (obS (obS (obS (obS (obS (obS (obS (obS (obS (obS ob0 ?_) ?_) ?_) ?_) ?_) ?_) ?_) ?_) ?_) ?_) ?_) ?_)) ?_
     ·intro vals ρ w819 X hd h0 st818
      have e820 : ρ 4 = (.int .i64 ((((edgesF (rs.take i)).length + j : Nat) : Int))) := (h0 4 rfl).trans hs132
      refine W1 (OpT.move (.int .i64 ((((edgesF (rs.take i)).length + j : Nat) : Int))) e820 ?_)
      refine WL.nil ?_
      exact oneQ.mk ⟨rfl, st818⟩
     ·intro vals ρ w822 X hd h0 st821
      have e823 : ρ 3 = v11 := (h0 3 rfl).trans hs134
      refine W1 (OpT.move v11 e823 ?_)
      refine WL.nil ?_
      exact oneQ.mk ⟨rfl, st821⟩
     ·intro vals ρ w825 X hd h0 st824
      have e826 : ρ 84 = v11 := ((hd 1 rfl).2 84 rfl).trans (hd 1 rfl).1
      refine W1 (OpT.lenR rfl tu24 hL122 e826 ?_)
      refine WL.nil ?_
      exact oneQ.mk ⟨rfl, st824⟩
     ·intro vals ρ w828 X hd h0 st827
      have e829 : ρ 83 = (.int .i64 ((((edgesF (rs.take i)).length + j : Nat) : Int))) := ((hd 0 rfl).2 83 rfl).trans (hd 0 rfl).1
      have e830 : ρ 85 = (.int .i64 ((((edgesF rs).length : Nat) : Int))) := ((hd 2 rfl).2 85 rfl).trans (hd 2 rfl).1
      refine W1 (OpT.ige .i64 ((((edgesF (rs.take i)).length + j : Nat) : Int)) ((((edgesF rs).length : Nat) : Int)) e829 e830 ?_)
      refine WL.nil ?_
      exact oneQ.mk ⟨rfl, st827⟩
     ·intro vals ρ w832 X hd h0 st831
      have e833 : ρ 86 = (.bool (decide ((((edgesF rs).length : Nat) : Int) ≤ (((edgesF (rs.take i)).length + j : Nat) : Int)))) := ((hd 3 rfl).2 86 rfl).trans (hd 3 rfl).1
      refine W1 (OpT.move (.bool (decide ((((edgesF rs).length : Nat) : Int) ≤ (((edgesF (rs.take i)).length + j : Nat) : Int)))) e833 ?_)
      refine WL.nil ?_
      exact oneQ.mk ⟨rfl, st831⟩
     ·intro vals ρ w835 X hd h0 st834
      have e836 : ρ 3 = v11 := (h0 3 rfl).trans hs134
      have e837 : ρ 87 = (.bool (decide ((((edgesF rs).length : Nat) : Int) ≤ (((edgesF (rs.take i)).length + j : Nat) : Int)))) := ((hd 4 rfl).2 87 rfl).trans (hd 4 rfl).1
      refine WL.pass (dj := 87) (c := true) rfl rfl rfl (e837.trans (bT h817)) rfl ?_
      refine WL.nil ?_
      exact oneQ.mk ⟨rfl, st834⟩
     ·intro vals ρ w839 X hd h0 st838
      have e840 : ρ 4 = (.int .i64 ((((edgesF (rs.take i)).length + j : Nat) : Int))) := (h0 4 rfl).trans hs132
      have e841 : ρ 87 = (.bool (decide ((((edgesF rs).length : Nat) : Int) ≤ (((edgesF (rs.take i)).length + j : Nat) : Int)))) := ((hd 4 rfl).2 87 rfl).trans (hd 4 rfl).1
      refine WL.pass (dj := 87) (c := true) rfl rfl rfl (e841.trans (bT h817)) rfl ?_
      refine WL.nil ?_
      exact oneQ.mk ⟨rfl, st838⟩
     ·intro vals ρ w843 X hd h0 st842
      have e844 : ρ 87 = (.bool (decide ((((edgesF rs).length : Nat) : Int) ≤ (((edgesF (rs.take i)).length + j : Nat) : Int)))) := ((hd 4 rfl).2 87 rfl).trans (hd 4 rfl).1
      have e845 : ρ 88 = undef := ((hd 5 rfl).2 88 rfl).trans (hd 5 rfl).1
      have e846 : ρ 89 = undef := ((hd 6 rfl).2 89 rfl).trans (hd 6 rfl).1
      refine WL.pass (dj := 87) (c := true) rfl rfl rfl (e844.trans (bT h817)) rfl ?_
      refine WL.nil ?_
      exact oneQ.mk ⟨rfl, st842⟩
     ·intro vals ρ w848 X hd h0 st847
      have e849 : ρ 87 = (.bool (decide ((((edgesF rs).length : Nat) : Int) ≤ (((edgesF (rs.take i)).length + j : Nat) : Int)))) := ((hd 4 rfl).2 87 rfl).trans (hd 4 rfl).1
      have e850 : ρ 90 = undef := ((hd 7 rfl).2 90 rfl).trans (hd 7 rfl).1
      refine WL.pass (dj := 87) (c := true) rfl rfl rfl (e849.trans (bT h817)) rfl ?_
      refine WL.nil ?_
      exact oneQ.mk ⟨rfl, st847⟩
     ·intro vals ρ w852 X hd h0 st851
      have e853 : ρ 12 = (pt b147 0) := (h0 12 rfl).trans rfl
      have e854 : ρ 87 = (.bool (decide ((((edgesF rs).length : Nat) : Int) ≤ (((edgesF (rs.take i)).length + j : Nat) : Int)))) := ((hd 4 rfl).2 87 rfl).trans (hd 4 rfl).1
      refine WL.pass (dj := 87) (c := true) rfl rfl rfl (e854.trans (bT h817)) rfl ?_
      refine WL.nil ?_
      exact oneQ.mk ⟨rfl, st851⟩
     ·intro vals ρ w856 X hd h0 st855
      have e857 : ρ 87 = (.bool (decide ((((edgesF rs).length : Nat) : Int) ≤ (((edgesF (rs.take i)).length + j : Nat) : Int)))) := ((hd 4 rfl).2 87 rfl).trans (hd 4 rfl).1
      have e858 : ρ 91 = undef := ((hd 8 rfl).2 91 rfl).trans (hd 8 rfl).1
      have e859 : ρ 92 = undef := ((hd 9 rfl).2 92 rfl).trans (hd 9 rfl).1
      refine WL.pass (dj := 87) (c := true) rfl rfl rfl (e857.trans (bT h817)) rfl ?_
      refine WL.nil ?_
      exact oneQ.mk ⟨rfl, st855⟩
     ·intro vals ρ w861 X hd h0 st860
      have e862 : ρ 87 = (.bool (decide ((((edgesF rs).length : Nat) : Int) ≤ (((edgesF (rs.take i)).length + j : Nat) : Int)))) := ((hd 4 rfl).2 87 rfl).trans (hd 4 rfl).1
      have e863 : ρ 93 = undef := ((hd 10 rfl).2 93 rfl).trans (hd 10 rfl).1
      refine W1 (OpT.pickT (.bool true) (e862.trans (bT h817)) rfl ?_)
      refine WL.nil ?_
      exact oneQ.mk ⟨rfl, st860⟩
     intro vals ρ866 w865 hv h0 st864
     replace st864 : St Z114 w119 w865 (Blk b147 47 [(.string x142.frm), (.string x142.to), (.int .i8 (3)), (.int .i64 (x142.rule))] :: L) := st864
     have e867 : ρ866 0 = v := (h0 0 rfl).trans hs133
     have e868 : ρ866 3 = v11 := (h0 3 rfl).trans hs134
     have e869 : ρ866 4 = (.int .i64 ((((edgesF (rs.take i)).length + j : Nat) : Int))) := (h0 4 rfl).trans hs132
     have e870 : ρ866 5 = (ni i) := (h0 5 rfl).trans hs135
     have e871 : ρ866 6 = (.bool (aggsB rl)) := (h0 6 rfl).trans hs136
     have e872 : ρ866 8 = (.bool (makesB rl)) := (h0 8 rfl).trans hs137
     have e873 : ρ866 9 = v96 := (h0 9 rfl).trans hs138
     have e874 : ρ866 10 = v118 := (h0 10 rfl).trans hs139
     have e875 : ρ866 11 = (ni j) := (h0 11 rfl).trans hs131
     have e876 : ρ866 94 = (.bool true) := ((hv 11 rfl).2 94 rfl).trans (hv 11 rfl).1
     clear hv h0
     refine Wnt ?_
     refine WC.condT e876 ?_
     refine Wsr ?_
     refine W1 (OpT.assign (.bool false) rfl ?_)
     refine Wnt ?_
     refine WC.ret <| thenQ_r <| blkQ_r <| thenQ_r <| loopQ_r <| blkQ_r <| blkQ_r <| thenQ_r <| loopQ_r <| blkQ_r <| thenQ_r <| retQ.one (.bool false) rfl ?_
     exfalso
     omega
    obtain ⟨xq6, hxq6⟩ : ∃ x, ((edgesF rs))[(edgesF (rs.take i)).length + j]? = some x := ⟨_, List.getElem?_eq_getElem (by omega)⟩
    obtain ⟨adq6, csq6, hEq6, hrq6, hRq6⟩ := Rl.sl_el hL122 hxq6
    have hRq6c := hRq6
    obtain rfl := hRq6
    refine WC.draw 12 (fun jj vv => match jj with | 0 => vv = (.int .i64 ((((edgesF (rs.take i)).length + j : Nat) : Int))) | 1 => vv = v11 | 2 => vv = (.int .i64 ((((edgesF rs).length : Nat) : Int))) | 3 => vv = (.bool (decide ((((edgesF rs).length : Nat) : Int) ≤ (((edgesF (rs.take i)).length + j : Nat) : Int)))) | 4 => vv = (.bool (decide ((((edgesF rs).length : Nat) : Int) ≤ (((edgesF (rs.take i)).length + j : Nat) : Int)))) | 5 => vv = v11 | 6 => vv = (.int .i64 ((((edgesF (rs.take i)).length + j : Nat) : Int))) | 7 => vv = (.pointer (some adq6)) | 8 => vv = (.agg #[(.string xq6.frm), (.string xq6.to), (.int .i8 (xq6.kind)), (.int .i64 (xq6.rule))]) | 9 => vv = (.agg #[(.string x142.frm), (.string x142.to), (.int .i8 (3)), (.int .i64 (x142.rule))]) | 10 => vv = (.bool (!decide ((⟨xq6.frm, xq6.to, xq6.kind, xq6.rule⟩ : Edg) = (⟨x142.frm, x142.to, 3, x142.rule⟩ : Edg)))) | 11 => vv = (.bool (!decide ((⟨xq6.frm, xq6.to, xq6.kind, xq6.rule⟩ : Edg) = (⟨x142.frm, x142.to, 3, x142.rule⟩ : Edg)))) | _ => True) (fun _ _ => []) st682 fmix (by kernel_rfl) ((obS (obS (obS (obS (obS (obS (obS (obS (obS (obS (obS (obS ob0 ?_) ?_) ?_) ?_) ?_) ?_) ?_) ?_) ?_) ?_) ?_) ?_)) ?_
    ·intro vals ρ w878 X hd h0 st877
     have e879 : ρ 4 = (.int .i64 ((((edgesF (rs.take i)).length + j : Nat) : Int))) := (h0 4 rfl).trans hs132
     refine W1 (OpT.move (.int .i64 ((((edgesF (rs.take i)).length + j : Nat) : Int))) e879 ?_)
     refine WL.nil ?_
     exact oneQ.mk ⟨rfl, st877⟩
    ·intro vals ρ w881 X hd h0 st880
     have e882 : ρ 3 = v11 := (h0 3 rfl).trans hs134
     refine W1 (OpT.move v11 e882 ?_)
     refine WL.nil ?_
     exact oneQ.mk ⟨rfl, st880⟩
    ·intro vals ρ w884 X hd h0 st883
     have e885 : ρ 84 = v11 := ((hd 1 rfl).2 84 rfl).trans (hd 1 rfl).1
     refine W1 (OpT.lenR rfl tu24 hL122 e885 ?_)
     refine WL.nil ?_
     exact oneQ.mk ⟨rfl, st883⟩
    ·intro vals ρ w887 X hd h0 st886
     have e888 : ρ 83 = (.int .i64 ((((edgesF (rs.take i)).length + j : Nat) : Int))) := ((hd 0 rfl).2 83 rfl).trans (hd 0 rfl).1
     have e889 : ρ 85 = (.int .i64 ((((edgesF rs).length : Nat) : Int))) := ((hd 2 rfl).2 85 rfl).trans (hd 2 rfl).1
     refine W1 (OpT.ige .i64 ((((edgesF (rs.take i)).length + j : Nat) : Int)) ((((edgesF rs).length : Nat) : Int)) e888 e889 ?_)
     refine WL.nil ?_
     exact oneQ.mk ⟨rfl, st886⟩
    ·intro vals ρ w891 X hd h0 st890
     have e892 : ρ 86 = (.bool (decide ((((edgesF rs).length : Nat) : Int) ≤ (((edgesF (rs.take i)).length + j : Nat) : Int)))) := ((hd 3 rfl).2 86 rfl).trans (hd 3 rfl).1
     refine W1 (OpT.move (.bool (decide ((((edgesF rs).length : Nat) : Int) ≤ (((edgesF (rs.take i)).length + j : Nat) : Int)))) e892 ?_)
     refine WL.nil ?_
     exact oneQ.mk ⟨rfl, st890⟩
    ·intro vals ρ w894 X hd h0 st893
     have e895 : ρ 3 = v11 := (h0 3 rfl).trans hs134
     have e896 : ρ 87 = (.bool (decide ((((edgesF rs).length : Nat) : Int) ≤ (((edgesF (rs.take i)).length + j : Nat) : Int)))) := ((hd 4 rfl).2 87 rfl).trans (hd 4 rfl).1
     refine W2 (dj := 87) (e896.trans (bF h817)) (OpT.move v11 e895 ?_)
     refine WL.nil ?_
     exact oneQ.mk ⟨rfl, st893⟩
    ·intro vals ρ w898 X hd h0 st897
     have e899 : ρ 4 = (.int .i64 ((((edgesF (rs.take i)).length + j : Nat) : Int))) := (h0 4 rfl).trans hs132
     have e900 : ρ 87 = (.bool (decide ((((edgesF rs).length : Nat) : Int) ≤ (((edgesF (rs.take i)).length + j : Nat) : Int)))) := ((hd 4 rfl).2 87 rfl).trans (hd 4 rfl).1
     refine W2 (dj := 87) (e900.trans (bF h817)) (OpT.move (.int .i64 ((((edgesF (rs.take i)).length + j : Nat) : Int))) e899 ?_)
     refine WL.nil ?_
     exact oneQ.mk ⟨rfl, st897⟩
    ·intro vals ρ w902 X hd h0 st901
     have e903 : ρ 87 = (.bool (decide ((((edgesF rs).length : Nat) : Int) ≤ (((edgesF (rs.take i)).length + j : Nat) : Int)))) := ((hd 4 rfl).2 87 rfl).trans (hd 4 rfl).1
     have e904 : ρ 88 = v11 := ((hd 5 rfl).2 88 rfl).trans (hd 5 rfl).1
     have e905 : ρ 89 = (.int .i64 ((((edgesF (rs.take i)).length + j : Nat) : Int))) := ((hd 6 rfl).2 89 rfl).trans (hd 6 rfl).1
     refine W2 (dj := 87) (e903.trans (bF h817)) (OpT.idxE tu24 ts47 e904 .i64 ((edgesF (rs.take i)).length + j) e905 hEq6 ?_)
     refine WL.nil ?_
     exact oneQ.mk ⟨rfl, st901⟩
    ·intro vals ρ w912 X hd h0 st911
     have e913 : ρ 87 = (.bool (decide ((((edgesF rs).length : Nat) : Int) ≤ (((edgesF (rs.take i)).length + j : Nat) : Int)))) := ((hd 4 rfl).2 87 rfl).trans (hd 4 rfl).1
     have e914 : ρ 90 = (.pointer (some adq6)) := ((hd 7 rfl).2 90 rfl).trans (hd 7 rfl).1
     refine W2 (dj := 87) (e913.trans (bF h817)) (OpT.loadA adq6 4 [(.string xq6.frm), (.string xq6.to), (.int .i8 (xq6.kind)), (.int .i64 (xq6.rule))] ta47 ts47 e914 ((hrq6.at st911).part 0 4) rfl ?_)
     refine WL.nil ?_
     exact oneQ.mk ⟨rfl, st911⟩
    ·intro vals ρ w916 X hd h0 st915
     have e917 : ρ 12 = (pt b147 0) := (h0 12 rfl).trans rfl
     have e918 : ρ 87 = (.bool (decide ((((edgesF rs).length : Nat) : Int) ≤ (((edgesF (rs.take i)).length + j : Nat) : Int)))) := ((hd 4 rfl).2 87 rfl).trans (hd 4 rfl).1
     refine W2 (dj := 87) (e918.trans (bF h817)) (OpT.loadA ⟨b147, 0, none⟩ 4 [(.string x142.frm), (.string x142.to), (.int .i8 (3)), (.int .i64 (x142.rule))] ta47 ts47 e917 ((st915.rowB (i := 0) rfl).part 0 4) rfl ?_)
     refine WL.nil ?_
     exact oneQ.mk ⟨rfl, st915⟩
    ·intro vals ρ w920 X hd h0 st919
     have e921 : ρ 87 = (.bool (decide ((((edgesF rs).length : Nat) : Int) ≤ (((edgesF (rs.take i)).length + j : Nat) : Int)))) := ((hd 4 rfl).2 87 rfl).trans (hd 4 rfl).1
     have e922 : ρ 91 = (.agg #[(.string xq6.frm), (.string xq6.to), (.int .i8 (xq6.kind)), (.int .i64 (xq6.rule))]) := ((hd 8 rfl).2 91 rfl).trans (hd 8 rfl).1
     have e923 : ρ 92 = (.agg #[(.string x142.frm), (.string x142.to), (.int .i8 (3)), (.int .i64 (x142.rule))]) := ((hd 9 rfl).2 92 rfl).trans (hd 9 rfl).1
     refine W2 (dj := 87) (e921.trans (bF h817)) (OpT.aggNe [(.string xq6.frm), (.string xq6.to), (.int .i8 (xq6.kind)), (.int .i64 (xq6.rule))] [(.string x142.frm), (.string x142.to), (.int .i8 (3)), (.int .i64 (x142.rule))] (decide ((⟨xq6.frm, xq6.to, xq6.kind, xq6.rule⟩ : Edg) = (⟨x142.frm, x142.to, 3, x142.rule⟩ : Edg))) tg47 (fun w => eqEdg 9998 w (⟨xq6.frm, xq6.to, xq6.kind, xq6.rule⟩ : Edg) (⟨x142.frm, x142.to, 3, x142.rule⟩ : Edg)) e922 e923 ?_)
     refine WL.nil ?_
     exact oneQ.mk ⟨rfl, st919⟩
    ·intro vals ρ w925 X hd h0 st924
     have e926 : ρ 87 = (.bool (decide ((((edgesF rs).length : Nat) : Int) ≤ (((edgesF (rs.take i)).length + j : Nat) : Int)))) := ((hd 4 rfl).2 87 rfl).trans (hd 4 rfl).1
     have e927 : ρ 93 = (.bool (!decide ((⟨xq6.frm, xq6.to, xq6.kind, xq6.rule⟩ : Edg) = (⟨x142.frm, x142.to, 3, x142.rule⟩ : Edg)))) := ((hd 10 rfl).2 93 rfl).trans (hd 10 rfl).1
     refine W1 (OpT.pickF (.bool (!decide ((⟨xq6.frm, xq6.to, xq6.kind, xq6.rule⟩ : Edg) = (⟨x142.frm, x142.to, 3, x142.rule⟩ : Edg)))) (e926.trans (bF h817)) e927 ?_)
     refine WL.nil ?_
     exact oneQ.mk ⟨rfl, st924⟩
    intro vals ρ930 w929 hv h0 st928
    replace st928 : St Z114 w119 w929 (Blk b147 47 [(.string x142.frm), (.string x142.to), (.int .i8 (3)), (.int .i64 (x142.rule))] :: L) := st928
    have e931 : ρ930 0 = v := (h0 0 rfl).trans hs133
    have e932 : ρ930 3 = v11 := (h0 3 rfl).trans hs134
    have e933 : ρ930 4 = (.int .i64 ((((edgesF (rs.take i)).length + j : Nat) : Int))) := (h0 4 rfl).trans hs132
    have e934 : ρ930 5 = (ni i) := (h0 5 rfl).trans hs135
    have e935 : ρ930 6 = (.bool (aggsB rl)) := (h0 6 rfl).trans hs136
    have e936 : ρ930 8 = (.bool (makesB rl)) := (h0 8 rfl).trans hs137
    have e937 : ρ930 9 = v96 := (h0 9 rfl).trans hs138
    have e938 : ρ930 10 = v118 := (h0 10 rfl).trans hs139
    have e939 : ρ930 11 = (ni j) := (h0 11 rfl).trans hs131
    have e940 : ρ930 94 = (.bool (!decide ((⟨xq6.frm, xq6.to, xq6.kind, xq6.rule⟩ : Edg) = (⟨x142.frm, x142.to, 3, x142.rule⟩ : Edg)))) := ((hv 11 rfl).2 94 rfl).trans (hv 11 rfl).1
    clear hv h0
    refine Wnt ?_
    refine WC.cond ((!decide ((⟨xq6.frm, xq6.to, xq6.kind, xq6.rule⟩ : Edg) = (⟨x142.frm, x142.to, 3, x142.rule⟩ : Edg)))) e940 (fun h941 => ?_) (fun h941 => ?_)
    ·refine WC.seq ?_
     refine WC.region ?_
     refine W1 (OpT.assign (.bool false) rfl ?_)
     refine Wnt ?_
     refine WC.ret <| thenQ_r <| blkQ_r <| thenQ_r <| loopQ_r <| blkQ_r <| blkQ_r <| thenQ_r <| loopQ_r <| blkQ_r <| thenQ_r <| retQ.one (.bool false) rfl ?_
     exact absurd (show (⟨xq6.frm, xq6.to, xq6.kind, xq6.rule⟩ : Edg) = (⟨x142.frm, x142.to, 3, x142.rule⟩ : Edg) from (kinds_ok hrl hx142 hx683 hxq6).trans (by simp only [kindOf]; simp [h154, h680, h688])) (of_decide_eq_false (by simpa only [Bool.not_eq_true'] using h941))
    refine WC.skip ?_
    refine thenQ_n ?_
    refine WC.region ?_
    refine W1 (OpT.move (.int .i64 ((((edgesF (rs.take i)).length + j : Nat) : Int))) e933 ?_)
    refine W1 (OpT.iadd .i64 ((((edgesF (rs.take i)).length + j : Nat) : Int)) (1) ((((edgesF (rs.take i)).length + j + 1 : Nat) : Int)) rfl rfl (wadd (a := (edgesF (rs.take i)).length + j) (b := 1) (by omega)) ?_)
    refine W1 (OpT.assign (.int .i64 ((((edgesF (rs.take i)).length + j + 1 : Nat) : Int))) rfl ?_)
    refine WL.nil ?_
    refine blkQ_n ?_
    refine thenQ_n ?_
    refine WC.region ?_
    refine W1 (OpT.move (ni j) e939 ?_)
    refine W1 (OpT.iadd .i64 (((j : Nat) : Int)) (1) (((j + 1 : Nat) : Int)) rfl rfl (wadd (a := j) (b := 1) (by omega)) ?_)
    refine W1 (OpT.assign (ni (j + 1)) rfl ?_)
    refine WL.nil ?_
    have st942 : St Z114 w119 w929 (L) := St.selT [Blk b147 47 [(.string x142.frm), (.string x142.to), (.int .i8 (3)), (.int .i64 (x142.rule))]] [] rfl (by decide) st928
    exact loopQ_n _ (by omega) ⟨j + 1, rfl, by omega, rfl, rfl, e931, e932, e934, e935, e936, e937, e938, st942⟩
   refine WC.skip ?_
   refine thenQ_n ?_
   refine WC.seq ?_
   refine Wsr ?_
   refine W1 (OpT.move v118 hs139 ?_)
   refine W1 (OpT.move (ni j) hs131 ?_)
   obtain ⟨x943, hx943⟩ : ∃ x, ((lno rl))[j]? = some x := ⟨_, List.getElem?_eq_getElem (by omega)⟩
   refine W1 (OpT.idxX tu43 ts4 hs116 rfl .i64 (j) rfl hx943 (fun ad944 cs945 hr946 hR947 => ?_))
   have hR947c := hR947
   obtain rfl := hR947
   refine W1 (OpT.loadS ad944 (.bool x943) ta4 rfl (hr946.cell st153 (j := 0) rfl) ?_)
   refine Wnt ?_
   refine WC.cond (x943) rfl (fun h948 => ?_) (fun h948 => ?_)
   ·refine WC.region ?_
    refine W1 (OpT.field 2 ⟨b147, 0, none⟩ ⟨b147, 2, none⟩ tf47_2 rfl rfl ?_)
    refine WL.stepN (OpT.storeS st153 0 (.int .i8 (2)) rfl ts45 rfl rfl rfl rfl rfl (fun w949 st950 => ?_))
    refine Wnt ?_
    refine WC.seq ?_
    refine WC.seq ?_
    have hLa := len_at hrl (k := j) (by omega)
    by_cases h951 : (((edgesF rs).length : Nat) : Int) ≤ (((edgesF (rs.take i)).length + j : Nat) : Int)
    ·refine WC.draw 12 (fun jj vv => match jj with | 0 => vv = (.int .i64 ((((edgesF (rs.take i)).length + j : Nat) : Int))) | 1 => vv = v11 | 2 => vv = (.int .i64 ((((edgesF rs).length : Nat) : Int))) | 3 => vv = (.bool (decide ((((edgesF rs).length : Nat) : Int) ≤ (((edgesF (rs.take i)).length + j : Nat) : Int)))) | 4 => vv = (.bool (decide ((((edgesF rs).length : Nat) : Int) ≤ (((edgesF (rs.take i)).length + j : Nat) : Int)))) | 5 => vv = undef | 6 => vv = undef | 7 => vv = undef | 8 => vv = undef | 9 => vv = undef | 10 => vv = undef | 11 => vv = (.bool true) | _ => True) (fun _ _ => []) st950 fmix (by kernel_rfl) ((obS (obS (obS (obS (obS (obS (obS (obS (obS (obS (obS (obS ob0 ?_) ?_) ?_) ?_) ?_) ?_) ?_) ?_) ?_) ?_) ?_) ?_)) ?_
     ·intro vals ρ w953 X hd h0 st952
      have e954 : ρ 4 = (.int .i64 ((((edgesF (rs.take i)).length + j : Nat) : Int))) := (h0 4 rfl).trans hs132
      refine W1 (OpT.move (.int .i64 ((((edgesF (rs.take i)).length + j : Nat) : Int))) e954 ?_)
      refine WL.nil ?_
      exact oneQ.mk ⟨rfl, st952⟩
     ·intro vals ρ w956 X hd h0 st955
      have e957 : ρ 3 = v11 := (h0 3 rfl).trans hs134
      refine W1 (OpT.move v11 e957 ?_)
      refine WL.nil ?_
      exact oneQ.mk ⟨rfl, st955⟩
     ·intro vals ρ w959 X hd h0 st958
      have e960 : ρ 84 = v11 := ((hd 1 rfl).2 84 rfl).trans (hd 1 rfl).1
      refine W1 (OpT.lenR rfl tu24 hL122 e960 ?_)
      refine WL.nil ?_
      exact oneQ.mk ⟨rfl, st958⟩
     ·intro vals ρ w962 X hd h0 st961
      have e963 : ρ 83 = (.int .i64 ((((edgesF (rs.take i)).length + j : Nat) : Int))) := ((hd 0 rfl).2 83 rfl).trans (hd 0 rfl).1
      have e964 : ρ 85 = (.int .i64 ((((edgesF rs).length : Nat) : Int))) := ((hd 2 rfl).2 85 rfl).trans (hd 2 rfl).1
      refine W1 (OpT.ige .i64 ((((edgesF (rs.take i)).length + j : Nat) : Int)) ((((edgesF rs).length : Nat) : Int)) e963 e964 ?_)
      refine WL.nil ?_
      exact oneQ.mk ⟨rfl, st961⟩
     ·intro vals ρ w966 X hd h0 st965
      have e967 : ρ 86 = (.bool (decide ((((edgesF rs).length : Nat) : Int) ≤ (((edgesF (rs.take i)).length + j : Nat) : Int)))) := ((hd 3 rfl).2 86 rfl).trans (hd 3 rfl).1
      refine W1 (OpT.move (.bool (decide ((((edgesF rs).length : Nat) : Int) ≤ (((edgesF (rs.take i)).length + j : Nat) : Int)))) e967 ?_)
      refine WL.nil ?_
      exact oneQ.mk ⟨rfl, st965⟩
     ·intro vals ρ w969 X hd h0 st968
      have e970 : ρ 3 = v11 := (h0 3 rfl).trans hs134
      have e971 : ρ 87 = (.bool (decide ((((edgesF rs).length : Nat) : Int) ≤ (((edgesF (rs.take i)).length + j : Nat) : Int)))) := ((hd 4 rfl).2 87 rfl).trans (hd 4 rfl).1
      refine WL.pass (dj := 87) (c := true) rfl rfl rfl (e971.trans (bT h951)) rfl ?_
      refine WL.nil ?_
      exact oneQ.mk ⟨rfl, st968⟩
     ·intro vals ρ w973 X hd h0 st972
      have e974 : ρ 4 = (.int .i64 ((((edgesF (rs.take i)).length + j : Nat) : Int))) := (h0 4 rfl).trans hs132
      have e975 : ρ 87 = (.bool (decide ((((edgesF rs).length : Nat) : Int) ≤ (((edgesF (rs.take i)).length + j : Nat) : Int)))) := ((hd 4 rfl).2 87 rfl).trans (hd 4 rfl).1
      refine WL.pass (dj := 87) (c := true) rfl rfl rfl (e975.trans (bT h951)) rfl ?_
      refine WL.nil ?_
      exact oneQ.mk ⟨rfl, st972⟩
     ·intro vals ρ w977 X hd h0 st976
      have e978 : ρ 87 = (.bool (decide ((((edgesF rs).length : Nat) : Int) ≤ (((edgesF (rs.take i)).length + j : Nat) : Int)))) := ((hd 4 rfl).2 87 rfl).trans (hd 4 rfl).1
      have e979 : ρ 88 = undef := ((hd 5 rfl).2 88 rfl).trans (hd 5 rfl).1
      have e980 : ρ 89 = undef := ((hd 6 rfl).2 89 rfl).trans (hd 6 rfl).1
      refine WL.pass (dj := 87) (c := true) rfl rfl rfl (e978.trans (bT h951)) rfl ?_
      refine WL.nil ?_
      exact oneQ.mk ⟨rfl, st976⟩
     ·intro vals ρ w982 X hd h0 st981
      have e983 : ρ 87 = (.bool (decide ((((edgesF rs).length : Nat) : Int) ≤ (((edgesF (rs.take i)).length + j : Nat) : Int)))) := ((hd 4 rfl).2 87 rfl).trans (hd 4 rfl).1
      have e984 : ρ 90 = undef := ((hd 7 rfl).2 90 rfl).trans (hd 7 rfl).1
      refine WL.pass (dj := 87) (c := true) rfl rfl rfl (e983.trans (bT h951)) rfl ?_
      refine WL.nil ?_
      exact oneQ.mk ⟨rfl, st981⟩
     ·intro vals ρ w986 X hd h0 st985
      have e987 : ρ 12 = (pt b147 0) := (h0 12 rfl).trans rfl
      have e988 : ρ 87 = (.bool (decide ((((edgesF rs).length : Nat) : Int) ≤ (((edgesF (rs.take i)).length + j : Nat) : Int)))) := ((hd 4 rfl).2 87 rfl).trans (hd 4 rfl).1
      refine WL.pass (dj := 87) (c := true) rfl rfl rfl (e988.trans (bT h951)) rfl ?_
      refine WL.nil ?_
      exact oneQ.mk ⟨rfl, st985⟩
     ·intro vals ρ w990 X hd h0 st989
      have e991 : ρ 87 = (.bool (decide ((((edgesF rs).length : Nat) : Int) ≤ (((edgesF (rs.take i)).length + j : Nat) : Int)))) := ((hd 4 rfl).2 87 rfl).trans (hd 4 rfl).1
      have e992 : ρ 91 = undef := ((hd 8 rfl).2 91 rfl).trans (hd 8 rfl).1
      have e993 : ρ 92 = undef := ((hd 9 rfl).2 92 rfl).trans (hd 9 rfl).1
      refine WL.pass (dj := 87) (c := true) rfl rfl rfl (e991.trans (bT h951)) rfl ?_
      refine WL.nil ?_
      exact oneQ.mk ⟨rfl, st989⟩
     ·intro vals ρ w995 X hd h0 st994
      have e996 : ρ 87 = (.bool (decide ((((edgesF rs).length : Nat) : Int) ≤ (((edgesF (rs.take i)).length + j : Nat) : Int)))) := ((hd 4 rfl).2 87 rfl).trans (hd 4 rfl).1
      have e997 : ρ 93 = undef := ((hd 10 rfl).2 93 rfl).trans (hd 10 rfl).1
      refine W1 (OpT.pickT (.bool true) (e996.trans (bT h951)) rfl ?_)
      refine WL.nil ?_
      exact oneQ.mk ⟨rfl, st994⟩
     intro vals ρ1000 w999 hv h0 st998
     replace st998 : St Z114 w119 w999 (Blk b147 47 [(.string x142.frm), (.string x142.to), (.int .i8 (2)), (.int .i64 (x142.rule))] :: L) := st998
     have e1001 : ρ1000 0 = v := (h0 0 rfl).trans hs133
     have e1002 : ρ1000 3 = v11 := (h0 3 rfl).trans hs134
     have e1003 : ρ1000 4 = (.int .i64 ((((edgesF (rs.take i)).length + j : Nat) : Int))) := (h0 4 rfl).trans hs132
     have e1004 : ρ1000 5 = (ni i) := (h0 5 rfl).trans hs135
     have e1005 : ρ1000 6 = (.bool (aggsB rl)) := (h0 6 rfl).trans hs136
     have e1006 : ρ1000 8 = (.bool (makesB rl)) := (h0 8 rfl).trans hs137
     have e1007 : ρ1000 9 = v96 := (h0 9 rfl).trans hs138
     have e1008 : ρ1000 10 = v118 := (h0 10 rfl).trans hs139
     have e1009 : ρ1000 11 = (ni j) := (h0 11 rfl).trans hs131
     have e1010 : ρ1000 94 = (.bool true) := ((hv 11 rfl).2 94 rfl).trans (hv 11 rfl).1
     clear hv h0
     refine Wnt ?_
     refine WC.condT e1010 ?_
     refine Wsr ?_
     refine W1 (OpT.assign (.bool false) rfl ?_)
     refine Wnt ?_
     refine WC.ret <| thenQ_r <| blkQ_r <| thenQ_r <| loopQ_r <| blkQ_r <| blkQ_r <| thenQ_r <| loopQ_r <| blkQ_r <| thenQ_r <| retQ.one (.bool false) rfl ?_
     exfalso
     omega
    obtain ⟨xq7, hxq7⟩ : ∃ x, ((edgesF rs))[(edgesF (rs.take i)).length + j]? = some x := ⟨_, List.getElem?_eq_getElem (by omega)⟩
    obtain ⟨adq7, csq7, hEq7, hrq7, hRq7⟩ := Rl.sl_el hL122 hxq7
    have hRq7c := hRq7
    obtain rfl := hRq7
    refine WC.draw 12 (fun jj vv => match jj with | 0 => vv = (.int .i64 ((((edgesF (rs.take i)).length + j : Nat) : Int))) | 1 => vv = v11 | 2 => vv = (.int .i64 ((((edgesF rs).length : Nat) : Int))) | 3 => vv = (.bool (decide ((((edgesF rs).length : Nat) : Int) ≤ (((edgesF (rs.take i)).length + j : Nat) : Int)))) | 4 => vv = (.bool (decide ((((edgesF rs).length : Nat) : Int) ≤ (((edgesF (rs.take i)).length + j : Nat) : Int)))) | 5 => vv = v11 | 6 => vv = (.int .i64 ((((edgesF (rs.take i)).length + j : Nat) : Int))) | 7 => vv = (.pointer (some adq7)) | 8 => vv = (.agg #[(.string xq7.frm), (.string xq7.to), (.int .i8 (xq7.kind)), (.int .i64 (xq7.rule))]) | 9 => vv = (.agg #[(.string x142.frm), (.string x142.to), (.int .i8 (2)), (.int .i64 (x142.rule))]) | 10 => vv = (.bool (!decide ((⟨xq7.frm, xq7.to, xq7.kind, xq7.rule⟩ : Edg) = (⟨x142.frm, x142.to, 2, x142.rule⟩ : Edg)))) | 11 => vv = (.bool (!decide ((⟨xq7.frm, xq7.to, xq7.kind, xq7.rule⟩ : Edg) = (⟨x142.frm, x142.to, 2, x142.rule⟩ : Edg)))) | _ => True) (fun _ _ => []) st950 fmix (by kernel_rfl) ((obS (obS (obS (obS (obS (obS (obS (obS (obS (obS (obS (obS ob0 ?_) ?_) ?_) ?_) ?_) ?_) ?_) ?_) ?_) ?_) ?_) ?_)) ?_
    ·intro vals ρ w1012 X hd h0 st1011
     have e1013 : ρ 4 = (.int .i64 ((((edgesF (rs.take i)).length + j : Nat) : Int))) := (h0 4 rfl).trans hs132
     refine W1 (OpT.move (.int .i64 ((((edgesF (rs.take i)).length + j : Nat) : Int))) e1013 ?_)
     refine WL.nil ?_
     exact oneQ.mk ⟨rfl, st1011⟩
    ·intro vals ρ w1015 X hd h0 st1014
     have e1016 : ρ 3 = v11 := (h0 3 rfl).trans hs134
     refine W1 (OpT.move v11 e1016 ?_)
     refine WL.nil ?_
     exact oneQ.mk ⟨rfl, st1014⟩
    ·intro vals ρ w1018 X hd h0 st1017
     have e1019 : ρ 84 = v11 := ((hd 1 rfl).2 84 rfl).trans (hd 1 rfl).1
     refine W1 (OpT.lenR rfl tu24 hL122 e1019 ?_)
     refine WL.nil ?_
     exact oneQ.mk ⟨rfl, st1017⟩
    ·intro vals ρ w1021 X hd h0 st1020
     have e1022 : ρ 83 = (.int .i64 ((((edgesF (rs.take i)).length + j : Nat) : Int))) := ((hd 0 rfl).2 83 rfl).trans (hd 0 rfl).1
     have e1023 : ρ 85 = (.int .i64 ((((edgesF rs).length : Nat) : Int))) := ((hd 2 rfl).2 85 rfl).trans (hd 2 rfl).1
     refine W1 (OpT.ige .i64 ((((edgesF (rs.take i)).length + j : Nat) : Int)) ((((edgesF rs).length : Nat) : Int)) e1022 e1023 ?_)
     refine WL.nil ?_
     exact oneQ.mk ⟨rfl, st1020⟩
    ·intro vals ρ w1025 X hd h0 st1024
     have e1026 : ρ 86 = (.bool (decide ((((edgesF rs).length : Nat) : Int) ≤ (((edgesF (rs.take i)).length + j : Nat) : Int)))) := ((hd 3 rfl).2 86 rfl).trans (hd 3 rfl).1
     refine W1 (OpT.move (.bool (decide ((((edgesF rs).length : Nat) : Int) ≤ (((edgesF (rs.take i)).length + j : Nat) : Int)))) e1026 ?_)
     refine WL.nil ?_
     exact oneQ.mk ⟨rfl, st1024⟩
    ·intro vals ρ w1028 X hd h0 st1027
     have e1029 : ρ 3 = v11 := (h0 3 rfl).trans hs134
     have e1030 : ρ 87 = (.bool (decide ((((edgesF rs).length : Nat) : Int) ≤ (((edgesF (rs.take i)).length + j : Nat) : Int)))) := ((hd 4 rfl).2 87 rfl).trans (hd 4 rfl).1
     refine W2 (dj := 87) (e1030.trans (bF h951)) (OpT.move v11 e1029 ?_)
     refine WL.nil ?_
     exact oneQ.mk ⟨rfl, st1027⟩
    ·intro vals ρ w1032 X hd h0 st1031
     have e1033 : ρ 4 = (.int .i64 ((((edgesF (rs.take i)).length + j : Nat) : Int))) := (h0 4 rfl).trans hs132
     have e1034 : ρ 87 = (.bool (decide ((((edgesF rs).length : Nat) : Int) ≤ (((edgesF (rs.take i)).length + j : Nat) : Int)))) := ((hd 4 rfl).2 87 rfl).trans (hd 4 rfl).1
     refine W2 (dj := 87) (e1034.trans (bF h951)) (OpT.move (.int .i64 ((((edgesF (rs.take i)).length + j : Nat) : Int))) e1033 ?_)
     refine WL.nil ?_
     exact oneQ.mk ⟨rfl, st1031⟩
    ·intro vals ρ w1036 X hd h0 st1035
     have e1037 : ρ 87 = (.bool (decide ((((edgesF rs).length : Nat) : Int) ≤ (((edgesF (rs.take i)).length + j : Nat) : Int)))) := ((hd 4 rfl).2 87 rfl).trans (hd 4 rfl).1
     have e1038 : ρ 88 = v11 := ((hd 5 rfl).2 88 rfl).trans (hd 5 rfl).1
     have e1039 : ρ 89 = (.int .i64 ((((edgesF (rs.take i)).length + j : Nat) : Int))) := ((hd 6 rfl).2 89 rfl).trans (hd 6 rfl).1
     refine W2 (dj := 87) (e1037.trans (bF h951)) (OpT.idxE tu24 ts47 e1038 .i64 ((edgesF (rs.take i)).length + j) e1039 hEq7 ?_)
     refine WL.nil ?_
     exact oneQ.mk ⟨rfl, st1035⟩
    ·intro vals ρ w1046 X hd h0 st1045
     have e1047 : ρ 87 = (.bool (decide ((((edgesF rs).length : Nat) : Int) ≤ (((edgesF (rs.take i)).length + j : Nat) : Int)))) := ((hd 4 rfl).2 87 rfl).trans (hd 4 rfl).1
     have e1048 : ρ 90 = (.pointer (some adq7)) := ((hd 7 rfl).2 90 rfl).trans (hd 7 rfl).1
     refine W2 (dj := 87) (e1047.trans (bF h951)) (OpT.loadA adq7 4 [(.string xq7.frm), (.string xq7.to), (.int .i8 (xq7.kind)), (.int .i64 (xq7.rule))] ta47 ts47 e1048 ((hrq7.at st1045).part 0 4) rfl ?_)
     refine WL.nil ?_
     exact oneQ.mk ⟨rfl, st1045⟩
    ·intro vals ρ w1050 X hd h0 st1049
     have e1051 : ρ 12 = (pt b147 0) := (h0 12 rfl).trans rfl
     have e1052 : ρ 87 = (.bool (decide ((((edgesF rs).length : Nat) : Int) ≤ (((edgesF (rs.take i)).length + j : Nat) : Int)))) := ((hd 4 rfl).2 87 rfl).trans (hd 4 rfl).1
     refine W2 (dj := 87) (e1052.trans (bF h951)) (OpT.loadA ⟨b147, 0, none⟩ 4 [(.string x142.frm), (.string x142.to), (.int .i8 (2)), (.int .i64 (x142.rule))] ta47 ts47 e1051 ((st1049.rowB (i := 0) rfl).part 0 4) rfl ?_)
     refine WL.nil ?_
     exact oneQ.mk ⟨rfl, st1049⟩
    ·intro vals ρ w1054 X hd h0 st1053
     have e1055 : ρ 87 = (.bool (decide ((((edgesF rs).length : Nat) : Int) ≤ (((edgesF (rs.take i)).length + j : Nat) : Int)))) := ((hd 4 rfl).2 87 rfl).trans (hd 4 rfl).1
     have e1056 : ρ 91 = (.agg #[(.string xq7.frm), (.string xq7.to), (.int .i8 (xq7.kind)), (.int .i64 (xq7.rule))]) := ((hd 8 rfl).2 91 rfl).trans (hd 8 rfl).1
     have e1057 : ρ 92 = (.agg #[(.string x142.frm), (.string x142.to), (.int .i8 (2)), (.int .i64 (x142.rule))]) := ((hd 9 rfl).2 92 rfl).trans (hd 9 rfl).1
     refine W2 (dj := 87) (e1055.trans (bF h951)) (OpT.aggNe [(.string xq7.frm), (.string xq7.to), (.int .i8 (xq7.kind)), (.int .i64 (xq7.rule))] [(.string x142.frm), (.string x142.to), (.int .i8 (2)), (.int .i64 (x142.rule))] (decide ((⟨xq7.frm, xq7.to, xq7.kind, xq7.rule⟩ : Edg) = (⟨x142.frm, x142.to, 2, x142.rule⟩ : Edg))) tg47 (fun w => eqEdg 9998 w (⟨xq7.frm, xq7.to, xq7.kind, xq7.rule⟩ : Edg) (⟨x142.frm, x142.to, 2, x142.rule⟩ : Edg)) e1056 e1057 ?_)
     refine WL.nil ?_
     exact oneQ.mk ⟨rfl, st1053⟩
    ·intro vals ρ w1059 X hd h0 st1058
     have e1060 : ρ 87 = (.bool (decide ((((edgesF rs).length : Nat) : Int) ≤ (((edgesF (rs.take i)).length + j : Nat) : Int)))) := ((hd 4 rfl).2 87 rfl).trans (hd 4 rfl).1
     have e1061 : ρ 93 = (.bool (!decide ((⟨xq7.frm, xq7.to, xq7.kind, xq7.rule⟩ : Edg) = (⟨x142.frm, x142.to, 2, x142.rule⟩ : Edg)))) := ((hd 10 rfl).2 93 rfl).trans (hd 10 rfl).1
     refine W1 (OpT.pickF (.bool (!decide ((⟨xq7.frm, xq7.to, xq7.kind, xq7.rule⟩ : Edg) = (⟨x142.frm, x142.to, 2, x142.rule⟩ : Edg)))) (e1060.trans (bF h951)) e1061 ?_)
     refine WL.nil ?_
     exact oneQ.mk ⟨rfl, st1058⟩
    intro vals ρ1064 w1063 hv h0 st1062
    replace st1062 : St Z114 w119 w1063 (Blk b147 47 [(.string x142.frm), (.string x142.to), (.int .i8 (2)), (.int .i64 (x142.rule))] :: L) := st1062
    have e1065 : ρ1064 0 = v := (h0 0 rfl).trans hs133
    have e1066 : ρ1064 3 = v11 := (h0 3 rfl).trans hs134
    have e1067 : ρ1064 4 = (.int .i64 ((((edgesF (rs.take i)).length + j : Nat) : Int))) := (h0 4 rfl).trans hs132
    have e1068 : ρ1064 5 = (ni i) := (h0 5 rfl).trans hs135
    have e1069 : ρ1064 6 = (.bool (aggsB rl)) := (h0 6 rfl).trans hs136
    have e1070 : ρ1064 8 = (.bool (makesB rl)) := (h0 8 rfl).trans hs137
    have e1071 : ρ1064 9 = v96 := (h0 9 rfl).trans hs138
    have e1072 : ρ1064 10 = v118 := (h0 10 rfl).trans hs139
    have e1073 : ρ1064 11 = (ni j) := (h0 11 rfl).trans hs131
    have e1074 : ρ1064 94 = (.bool (!decide ((⟨xq7.frm, xq7.to, xq7.kind, xq7.rule⟩ : Edg) = (⟨x142.frm, x142.to, 2, x142.rule⟩ : Edg)))) := ((hv 11 rfl).2 94 rfl).trans (hv 11 rfl).1
    clear hv h0
    refine Wnt ?_
    refine WC.cond ((!decide ((⟨xq7.frm, xq7.to, xq7.kind, xq7.rule⟩ : Edg) = (⟨x142.frm, x142.to, 2, x142.rule⟩ : Edg)))) e1074 (fun h1075 => ?_) (fun h1075 => ?_)
    ·refine WC.seq ?_
     refine WC.region ?_
     refine W1 (OpT.assign (.bool false) rfl ?_)
     refine Wnt ?_
     refine WC.ret <| thenQ_r <| blkQ_r <| thenQ_r <| loopQ_r <| blkQ_r <| blkQ_r <| thenQ_r <| loopQ_r <| blkQ_r <| thenQ_r <| retQ.one (.bool false) rfl ?_
     exact absurd (show (⟨xq7.frm, xq7.to, xq7.kind, xq7.rule⟩ : Edg) = (⟨x142.frm, x142.to, 2, x142.rule⟩ : Edg) from (kinds_ok hrl hx142 hx943 hxq7).trans (by simp only [kindOf]; simp [h154, h680, h948])) (of_decide_eq_false (by simpa only [Bool.not_eq_true'] using h1075))
    refine WC.skip ?_
    refine thenQ_n ?_
    refine WC.region ?_
    refine W1 (OpT.move (.int .i64 ((((edgesF (rs.take i)).length + j : Nat) : Int))) e1067 ?_)
    refine W1 (OpT.iadd .i64 ((((edgesF (rs.take i)).length + j : Nat) : Int)) (1) ((((edgesF (rs.take i)).length + j + 1 : Nat) : Int)) rfl rfl (wadd (a := (edgesF (rs.take i)).length + j) (b := 1) (by omega)) ?_)
    refine W1 (OpT.assign (.int .i64 ((((edgesF (rs.take i)).length + j + 1 : Nat) : Int))) rfl ?_)
    refine WL.nil ?_
    refine blkQ_n ?_
    refine thenQ_n ?_
    refine WC.region ?_
    refine W1 (OpT.move (ni j) e1073 ?_)
    refine W1 (OpT.iadd .i64 (((j : Nat) : Int)) (1) (((j + 1 : Nat) : Int)) rfl rfl (wadd (a := j) (b := 1) (by omega)) ?_)
    refine W1 (OpT.assign (ni (j + 1)) rfl ?_)
    refine WL.nil ?_
    have st1076 : St Z114 w119 w1063 (L) := St.selT [Blk b147 47 [(.string x142.frm), (.string x142.to), (.int .i8 (2)), (.int .i64 (x142.rule))]] [] rfl (by decide) st1062
    exact loopQ_n _ (by omega) ⟨j + 1, rfl, by omega, rfl, rfl, e1065, e1066, e1068, e1069, e1070, e1071, e1072, st1076⟩
   refine WC.skip ?_
   refine thenQ_n ?_
   refine WC.seq ?_
   refine WC.seq ?_
   have hLa := len_at hrl (k := j) (by omega)
   by_cases h1077 : (((edgesF rs).length : Nat) : Int) ≤ (((edgesF (rs.take i)).length + j : Nat) : Int)
   ·refine WC.draw 12 (fun jj vv => match jj with | 0 => vv = (.int .i64 ((((edgesF (rs.take i)).length + j : Nat) : Int))) | 1 => vv = v11 | 2 => vv = (.int .i64 ((((edgesF rs).length : Nat) : Int))) | 3 => vv = (.bool (decide ((((edgesF rs).length : Nat) : Int) ≤ (((edgesF (rs.take i)).length + j : Nat) : Int)))) | 4 => vv = (.bool (decide ((((edgesF rs).length : Nat) : Int) ≤ (((edgesF (rs.take i)).length + j : Nat) : Int)))) | 5 => vv = undef | 6 => vv = undef | 7 => vv = undef | 8 => vv = undef | 9 => vv = undef | 10 => vv = undef | 11 => vv = (.bool true) | _ => True) (fun _ _ => []) st153 fmix (by kernel_rfl) ((obS (obS (obS (obS (obS (obS (obS (obS (obS (obS (obS (obS ob0 ?_) ?_) ?_) ?_) ?_) ?_) ?_) ?_) ?_) ?_) ?_) ?_)) ?_
    ·intro vals ρ w1079 X hd h0 st1078
     have e1080 : ρ 4 = (.int .i64 ((((edgesF (rs.take i)).length + j : Nat) : Int))) := (h0 4 rfl).trans hs132
     refine W1 (OpT.move (.int .i64 ((((edgesF (rs.take i)).length + j : Nat) : Int))) e1080 ?_)
     refine WL.nil ?_
     exact oneQ.mk ⟨rfl, st1078⟩
    ·intro vals ρ w1082 X hd h0 st1081
     have e1083 : ρ 3 = v11 := (h0 3 rfl).trans hs134
     refine W1 (OpT.move v11 e1083 ?_)
     refine WL.nil ?_
     exact oneQ.mk ⟨rfl, st1081⟩
    ·intro vals ρ w1085 X hd h0 st1084
     have e1086 : ρ 84 = v11 := ((hd 1 rfl).2 84 rfl).trans (hd 1 rfl).1
     refine W1 (OpT.lenR rfl tu24 hL122 e1086 ?_)
     refine WL.nil ?_
     exact oneQ.mk ⟨rfl, st1084⟩
    ·intro vals ρ w1088 X hd h0 st1087
     have e1089 : ρ 83 = (.int .i64 ((((edgesF (rs.take i)).length + j : Nat) : Int))) := ((hd 0 rfl).2 83 rfl).trans (hd 0 rfl).1
     have e1090 : ρ 85 = (.int .i64 ((((edgesF rs).length : Nat) : Int))) := ((hd 2 rfl).2 85 rfl).trans (hd 2 rfl).1
     refine W1 (OpT.ige .i64 ((((edgesF (rs.take i)).length + j : Nat) : Int)) ((((edgesF rs).length : Nat) : Int)) e1089 e1090 ?_)
     refine WL.nil ?_
     exact oneQ.mk ⟨rfl, st1087⟩
    ·intro vals ρ w1092 X hd h0 st1091
     have e1093 : ρ 86 = (.bool (decide ((((edgesF rs).length : Nat) : Int) ≤ (((edgesF (rs.take i)).length + j : Nat) : Int)))) := ((hd 3 rfl).2 86 rfl).trans (hd 3 rfl).1
     refine W1 (OpT.move (.bool (decide ((((edgesF rs).length : Nat) : Int) ≤ (((edgesF (rs.take i)).length + j : Nat) : Int)))) e1093 ?_)
     refine WL.nil ?_
     exact oneQ.mk ⟨rfl, st1091⟩
    ·intro vals ρ w1095 X hd h0 st1094
     have e1096 : ρ 3 = v11 := (h0 3 rfl).trans hs134
     have e1097 : ρ 87 = (.bool (decide ((((edgesF rs).length : Nat) : Int) ≤ (((edgesF (rs.take i)).length + j : Nat) : Int)))) := ((hd 4 rfl).2 87 rfl).trans (hd 4 rfl).1
     refine WL.pass (dj := 87) (c := true) rfl rfl rfl (e1097.trans (bT h1077)) rfl ?_
     refine WL.nil ?_
     exact oneQ.mk ⟨rfl, st1094⟩
    ·intro vals ρ w1099 X hd h0 st1098
     have e1100 : ρ 4 = (.int .i64 ((((edgesF (rs.take i)).length + j : Nat) : Int))) := (h0 4 rfl).trans hs132
     have e1101 : ρ 87 = (.bool (decide ((((edgesF rs).length : Nat) : Int) ≤ (((edgesF (rs.take i)).length + j : Nat) : Int)))) := ((hd 4 rfl).2 87 rfl).trans (hd 4 rfl).1
     refine WL.pass (dj := 87) (c := true) rfl rfl rfl (e1101.trans (bT h1077)) rfl ?_
     refine WL.nil ?_
     exact oneQ.mk ⟨rfl, st1098⟩
    ·intro vals ρ w1103 X hd h0 st1102
     have e1104 : ρ 87 = (.bool (decide ((((edgesF rs).length : Nat) : Int) ≤ (((edgesF (rs.take i)).length + j : Nat) : Int)))) := ((hd 4 rfl).2 87 rfl).trans (hd 4 rfl).1
     have e1105 : ρ 88 = undef := ((hd 5 rfl).2 88 rfl).trans (hd 5 rfl).1
     have e1106 : ρ 89 = undef := ((hd 6 rfl).2 89 rfl).trans (hd 6 rfl).1
     refine WL.pass (dj := 87) (c := true) rfl rfl rfl (e1104.trans (bT h1077)) rfl ?_
     refine WL.nil ?_
     exact oneQ.mk ⟨rfl, st1102⟩
    ·intro vals ρ w1108 X hd h0 st1107
     have e1109 : ρ 87 = (.bool (decide ((((edgesF rs).length : Nat) : Int) ≤ (((edgesF (rs.take i)).length + j : Nat) : Int)))) := ((hd 4 rfl).2 87 rfl).trans (hd 4 rfl).1
     have e1110 : ρ 90 = undef := ((hd 7 rfl).2 90 rfl).trans (hd 7 rfl).1
     refine WL.pass (dj := 87) (c := true) rfl rfl rfl (e1109.trans (bT h1077)) rfl ?_
     refine WL.nil ?_
     exact oneQ.mk ⟨rfl, st1107⟩
    ·intro vals ρ w1112 X hd h0 st1111
     have e1113 : ρ 12 = (pt b147 0) := (h0 12 rfl).trans rfl
     have e1114 : ρ 87 = (.bool (decide ((((edgesF rs).length : Nat) : Int) ≤ (((edgesF (rs.take i)).length + j : Nat) : Int)))) := ((hd 4 rfl).2 87 rfl).trans (hd 4 rfl).1
     refine WL.pass (dj := 87) (c := true) rfl rfl rfl (e1114.trans (bT h1077)) rfl ?_
     refine WL.nil ?_
     exact oneQ.mk ⟨rfl, st1111⟩
    ·intro vals ρ w1116 X hd h0 st1115
     have e1117 : ρ 87 = (.bool (decide ((((edgesF rs).length : Nat) : Int) ≤ (((edgesF (rs.take i)).length + j : Nat) : Int)))) := ((hd 4 rfl).2 87 rfl).trans (hd 4 rfl).1
     have e1118 : ρ 91 = undef := ((hd 8 rfl).2 91 rfl).trans (hd 8 rfl).1
     have e1119 : ρ 92 = undef := ((hd 9 rfl).2 92 rfl).trans (hd 9 rfl).1
     refine WL.pass (dj := 87) (c := true) rfl rfl rfl (e1117.trans (bT h1077)) rfl ?_
     refine WL.nil ?_
     exact oneQ.mk ⟨rfl, st1115⟩
    ·intro vals ρ w1121 X hd h0 st1120
     have e1122 : ρ 87 = (.bool (decide ((((edgesF rs).length : Nat) : Int) ≤ (((edgesF (rs.take i)).length + j : Nat) : Int)))) := ((hd 4 rfl).2 87 rfl).trans (hd 4 rfl).1
     have e1123 : ρ 93 = undef := ((hd 10 rfl).2 93 rfl).trans (hd 10 rfl).1
     refine W1 (OpT.pickT (.bool true) (e1122.trans (bT h1077)) rfl ?_)
     refine WL.nil ?_
     exact oneQ.mk ⟨rfl, st1120⟩
    intro vals ρ1126 w1125 hv h0 st1124
    replace st1124 : St Z114 w119 w1125 (Blk b147 47 [(.string x142.frm), (.string x142.to), (.int .i8 (1)), (.int .i64 (x142.rule))] :: L) := st1124
    have e1127 : ρ1126 0 = v := (h0 0 rfl).trans hs133
    have e1128 : ρ1126 3 = v11 := (h0 3 rfl).trans hs134
    have e1129 : ρ1126 4 = (.int .i64 ((((edgesF (rs.take i)).length + j : Nat) : Int))) := (h0 4 rfl).trans hs132
    have e1130 : ρ1126 5 = (ni i) := (h0 5 rfl).trans hs135
    have e1131 : ρ1126 6 = (.bool (aggsB rl)) := (h0 6 rfl).trans hs136
    have e1132 : ρ1126 8 = (.bool (makesB rl)) := (h0 8 rfl).trans hs137
    have e1133 : ρ1126 9 = v96 := (h0 9 rfl).trans hs138
    have e1134 : ρ1126 10 = v118 := (h0 10 rfl).trans hs139
    have e1135 : ρ1126 11 = (ni j) := (h0 11 rfl).trans hs131
    have e1136 : ρ1126 94 = (.bool true) := ((hv 11 rfl).2 94 rfl).trans (hv 11 rfl).1
    clear hv h0
    refine Wnt ?_
    refine WC.condT e1136 ?_
    refine Wsr ?_
    refine W1 (OpT.assign (.bool false) rfl ?_)
    refine Wnt ?_
    refine WC.ret <| thenQ_r <| blkQ_r <| thenQ_r <| loopQ_r <| blkQ_r <| blkQ_r <| thenQ_r <| loopQ_r <| blkQ_r <| thenQ_r <| retQ.one (.bool false) rfl ?_
    exfalso
    omega
   obtain ⟨xq8, hxq8⟩ : ∃ x, ((edgesF rs))[(edgesF (rs.take i)).length + j]? = some x := ⟨_, List.getElem?_eq_getElem (by omega)⟩
   obtain ⟨adq8, csq8, hEq8, hrq8, hRq8⟩ := Rl.sl_el hL122 hxq8
   have hRq8c := hRq8
   obtain rfl := hRq8
   refine WC.draw 12 (fun jj vv => match jj with | 0 => vv = (.int .i64 ((((edgesF (rs.take i)).length + j : Nat) : Int))) | 1 => vv = v11 | 2 => vv = (.int .i64 ((((edgesF rs).length : Nat) : Int))) | 3 => vv = (.bool (decide ((((edgesF rs).length : Nat) : Int) ≤ (((edgesF (rs.take i)).length + j : Nat) : Int)))) | 4 => vv = (.bool (decide ((((edgesF rs).length : Nat) : Int) ≤ (((edgesF (rs.take i)).length + j : Nat) : Int)))) | 5 => vv = v11 | 6 => vv = (.int .i64 ((((edgesF (rs.take i)).length + j : Nat) : Int))) | 7 => vv = (.pointer (some adq8)) | 8 => vv = (.agg #[(.string xq8.frm), (.string xq8.to), (.int .i8 (xq8.kind)), (.int .i64 (xq8.rule))]) | 9 => vv = (.agg #[(.string x142.frm), (.string x142.to), (.int .i8 (1)), (.int .i64 (x142.rule))]) | 10 => vv = (.bool (!decide ((⟨xq8.frm, xq8.to, xq8.kind, xq8.rule⟩ : Edg) = (⟨x142.frm, x142.to, 1, x142.rule⟩ : Edg)))) | 11 => vv = (.bool (!decide ((⟨xq8.frm, xq8.to, xq8.kind, xq8.rule⟩ : Edg) = (⟨x142.frm, x142.to, 1, x142.rule⟩ : Edg)))) | _ => True) (fun _ _ => []) st153 fmix (by kernel_rfl) ((obS (obS (obS (obS (obS (obS (obS (obS (obS (obS (obS (obS ob0 ?_) ?_) ?_) ?_) ?_) ?_) ?_) ?_) ?_) ?_) ?_) ?_)) ?_
   ·intro vals ρ w1138 X hd h0 st1137
    have e1139 : ρ 4 = (.int .i64 ((((edgesF (rs.take i)).length + j : Nat) : Int))) := (h0 4 rfl).trans hs132
    refine W1 (OpT.move (.int .i64 ((((edgesF (rs.take i)).length + j : Nat) : Int))) e1139 ?_)
    refine WL.nil ?_
    exact oneQ.mk ⟨rfl, st1137⟩
   ·intro vals ρ w1141 X hd h0 st1140
    have e1142 : ρ 3 = v11 := (h0 3 rfl).trans hs134
    refine W1 (OpT.move v11 e1142 ?_)
    refine WL.nil ?_
    exact oneQ.mk ⟨rfl, st1140⟩
   ·intro vals ρ w1144 X hd h0 st1143
    have e1145 : ρ 84 = v11 := ((hd 1 rfl).2 84 rfl).trans (hd 1 rfl).1
    refine W1 (OpT.lenR rfl tu24 hL122 e1145 ?_)
    refine WL.nil ?_
    exact oneQ.mk ⟨rfl, st1143⟩
   ·intro vals ρ w1147 X hd h0 st1146
    have e1148 : ρ 83 = (.int .i64 ((((edgesF (rs.take i)).length + j : Nat) : Int))) := ((hd 0 rfl).2 83 rfl).trans (hd 0 rfl).1
    have e1149 : ρ 85 = (.int .i64 ((((edgesF rs).length : Nat) : Int))) := ((hd 2 rfl).2 85 rfl).trans (hd 2 rfl).1
    refine W1 (OpT.ige .i64 ((((edgesF (rs.take i)).length + j : Nat) : Int)) ((((edgesF rs).length : Nat) : Int)) e1148 e1149 ?_)
    refine WL.nil ?_
    exact oneQ.mk ⟨rfl, st1146⟩
   ·intro vals ρ w1151 X hd h0 st1150
    have e1152 : ρ 86 = (.bool (decide ((((edgesF rs).length : Nat) : Int) ≤ (((edgesF (rs.take i)).length + j : Nat) : Int)))) := ((hd 3 rfl).2 86 rfl).trans (hd 3 rfl).1
    refine W1 (OpT.move (.bool (decide ((((edgesF rs).length : Nat) : Int) ≤ (((edgesF (rs.take i)).length + j : Nat) : Int)))) e1152 ?_)
    refine WL.nil ?_
    exact oneQ.mk ⟨rfl, st1150⟩
   ·intro vals ρ w1154 X hd h0 st1153
    have e1155 : ρ 3 = v11 := (h0 3 rfl).trans hs134
    have e1156 : ρ 87 = (.bool (decide ((((edgesF rs).length : Nat) : Int) ≤ (((edgesF (rs.take i)).length + j : Nat) : Int)))) := ((hd 4 rfl).2 87 rfl).trans (hd 4 rfl).1
    refine W2 (dj := 87) (e1156.trans (bF h1077)) (OpT.move v11 e1155 ?_)
    refine WL.nil ?_
    exact oneQ.mk ⟨rfl, st1153⟩
   ·intro vals ρ w1158 X hd h0 st1157
    have e1159 : ρ 4 = (.int .i64 ((((edgesF (rs.take i)).length + j : Nat) : Int))) := (h0 4 rfl).trans hs132
    have e1160 : ρ 87 = (.bool (decide ((((edgesF rs).length : Nat) : Int) ≤ (((edgesF (rs.take i)).length + j : Nat) : Int)))) := ((hd 4 rfl).2 87 rfl).trans (hd 4 rfl).1
    refine W2 (dj := 87) (e1160.trans (bF h1077)) (OpT.move (.int .i64 ((((edgesF (rs.take i)).length + j : Nat) : Int))) e1159 ?_)
    refine WL.nil ?_
    exact oneQ.mk ⟨rfl, st1157⟩
   ·intro vals ρ w1162 X hd h0 st1161
    have e1163 : ρ 87 = (.bool (decide ((((edgesF rs).length : Nat) : Int) ≤ (((edgesF (rs.take i)).length + j : Nat) : Int)))) := ((hd 4 rfl).2 87 rfl).trans (hd 4 rfl).1
    have e1164 : ρ 88 = v11 := ((hd 5 rfl).2 88 rfl).trans (hd 5 rfl).1
    have e1165 : ρ 89 = (.int .i64 ((((edgesF (rs.take i)).length + j : Nat) : Int))) := ((hd 6 rfl).2 89 rfl).trans (hd 6 rfl).1
    refine W2 (dj := 87) (e1163.trans (bF h1077)) (OpT.idxE tu24 ts47 e1164 .i64 ((edgesF (rs.take i)).length + j) e1165 hEq8 ?_)
    refine WL.nil ?_
    exact oneQ.mk ⟨rfl, st1161⟩
   ·intro vals ρ w1172 X hd h0 st1171
    have e1173 : ρ 87 = (.bool (decide ((((edgesF rs).length : Nat) : Int) ≤ (((edgesF (rs.take i)).length + j : Nat) : Int)))) := ((hd 4 rfl).2 87 rfl).trans (hd 4 rfl).1
    have e1174 : ρ 90 = (.pointer (some adq8)) := ((hd 7 rfl).2 90 rfl).trans (hd 7 rfl).1
    refine W2 (dj := 87) (e1173.trans (bF h1077)) (OpT.loadA adq8 4 [(.string xq8.frm), (.string xq8.to), (.int .i8 (xq8.kind)), (.int .i64 (xq8.rule))] ta47 ts47 e1174 ((hrq8.at st1171).part 0 4) rfl ?_)
    refine WL.nil ?_
    exact oneQ.mk ⟨rfl, st1171⟩
   ·intro vals ρ w1176 X hd h0 st1175
    have e1177 : ρ 12 = (pt b147 0) := (h0 12 rfl).trans rfl
    have e1178 : ρ 87 = (.bool (decide ((((edgesF rs).length : Nat) : Int) ≤ (((edgesF (rs.take i)).length + j : Nat) : Int)))) := ((hd 4 rfl).2 87 rfl).trans (hd 4 rfl).1
    refine W2 (dj := 87) (e1178.trans (bF h1077)) (OpT.loadA ⟨b147, 0, none⟩ 4 [(.string x142.frm), (.string x142.to), (.int .i8 (1)), (.int .i64 (x142.rule))] ta47 ts47 e1177 ((st1175.rowB (i := 0) rfl).part 0 4) rfl ?_)
    refine WL.nil ?_
    exact oneQ.mk ⟨rfl, st1175⟩
   ·intro vals ρ w1180 X hd h0 st1179
    have e1181 : ρ 87 = (.bool (decide ((((edgesF rs).length : Nat) : Int) ≤ (((edgesF (rs.take i)).length + j : Nat) : Int)))) := ((hd 4 rfl).2 87 rfl).trans (hd 4 rfl).1
    have e1182 : ρ 91 = (.agg #[(.string xq8.frm), (.string xq8.to), (.int .i8 (xq8.kind)), (.int .i64 (xq8.rule))]) := ((hd 8 rfl).2 91 rfl).trans (hd 8 rfl).1
    have e1183 : ρ 92 = (.agg #[(.string x142.frm), (.string x142.to), (.int .i8 (1)), (.int .i64 (x142.rule))]) := ((hd 9 rfl).2 92 rfl).trans (hd 9 rfl).1
    refine W2 (dj := 87) (e1181.trans (bF h1077)) (OpT.aggNe [(.string xq8.frm), (.string xq8.to), (.int .i8 (xq8.kind)), (.int .i64 (xq8.rule))] [(.string x142.frm), (.string x142.to), (.int .i8 (1)), (.int .i64 (x142.rule))] (decide ((⟨xq8.frm, xq8.to, xq8.kind, xq8.rule⟩ : Edg) = (⟨x142.frm, x142.to, 1, x142.rule⟩ : Edg))) tg47 (fun w => eqEdg 9998 w (⟨xq8.frm, xq8.to, xq8.kind, xq8.rule⟩ : Edg) (⟨x142.frm, x142.to, 1, x142.rule⟩ : Edg)) e1182 e1183 ?_)
    refine WL.nil ?_
    exact oneQ.mk ⟨rfl, st1179⟩
   ·intro vals ρ w1185 X hd h0 st1184
    have e1186 : ρ 87 = (.bool (decide ((((edgesF rs).length : Nat) : Int) ≤ (((edgesF (rs.take i)).length + j : Nat) : Int)))) := ((hd 4 rfl).2 87 rfl).trans (hd 4 rfl).1
    have e1187 : ρ 93 = (.bool (!decide ((⟨xq8.frm, xq8.to, xq8.kind, xq8.rule⟩ : Edg) = (⟨x142.frm, x142.to, 1, x142.rule⟩ : Edg)))) := ((hd 10 rfl).2 93 rfl).trans (hd 10 rfl).1
    refine W1 (OpT.pickF (.bool (!decide ((⟨xq8.frm, xq8.to, xq8.kind, xq8.rule⟩ : Edg) = (⟨x142.frm, x142.to, 1, x142.rule⟩ : Edg)))) (e1186.trans (bF h1077)) e1187 ?_)
    refine WL.nil ?_
    exact oneQ.mk ⟨rfl, st1184⟩
   intro vals ρ1190 w1189 hv h0 st1188
   replace st1188 : St Z114 w119 w1189 (Blk b147 47 [(.string x142.frm), (.string x142.to), (.int .i8 (1)), (.int .i64 (x142.rule))] :: L) := st1188
   have e1191 : ρ1190 0 = v := (h0 0 rfl).trans hs133
   have e1192 : ρ1190 3 = v11 := (h0 3 rfl).trans hs134
   have e1193 : ρ1190 4 = (.int .i64 ((((edgesF (rs.take i)).length + j : Nat) : Int))) := (h0 4 rfl).trans hs132
   have e1194 : ρ1190 5 = (ni i) := (h0 5 rfl).trans hs135
   have e1195 : ρ1190 6 = (.bool (aggsB rl)) := (h0 6 rfl).trans hs136
   have e1196 : ρ1190 8 = (.bool (makesB rl)) := (h0 8 rfl).trans hs137
   have e1197 : ρ1190 9 = v96 := (h0 9 rfl).trans hs138
   have e1198 : ρ1190 10 = v118 := (h0 10 rfl).trans hs139
   have e1199 : ρ1190 11 = (ni j) := (h0 11 rfl).trans hs131
   have e1200 : ρ1190 94 = (.bool (!decide ((⟨xq8.frm, xq8.to, xq8.kind, xq8.rule⟩ : Edg) = (⟨x142.frm, x142.to, 1, x142.rule⟩ : Edg)))) := ((hv 11 rfl).2 94 rfl).trans (hv 11 rfl).1
   clear hv h0
   refine Wnt ?_
   refine WC.cond ((!decide ((⟨xq8.frm, xq8.to, xq8.kind, xq8.rule⟩ : Edg) = (⟨x142.frm, x142.to, 1, x142.rule⟩ : Edg)))) e1200 (fun h1201 => ?_) (fun h1201 => ?_)
   ·refine WC.seq ?_
    refine WC.region ?_
    refine W1 (OpT.assign (.bool false) rfl ?_)
    refine Wnt ?_
    refine WC.ret <| thenQ_r <| blkQ_r <| thenQ_r <| loopQ_r <| blkQ_r <| blkQ_r <| thenQ_r <| loopQ_r <| blkQ_r <| thenQ_r <| retQ.one (.bool false) rfl ?_
    exact absurd (show (⟨xq8.frm, xq8.to, xq8.kind, xq8.rule⟩ : Edg) = (⟨x142.frm, x142.to, 1, x142.rule⟩ : Edg) from (kinds_ok hrl hx142 hx943 hxq8).trans (by simp only [kindOf]; simp [h154, h680, h948])) (of_decide_eq_false (by simpa only [Bool.not_eq_true'] using h1201))
   refine WC.skip ?_
   refine thenQ_n ?_
   refine WC.region ?_
   refine W1 (OpT.move (.int .i64 ((((edgesF (rs.take i)).length + j : Nat) : Int))) e1193 ?_)
   refine W1 (OpT.iadd .i64 ((((edgesF (rs.take i)).length + j : Nat) : Int)) (1) ((((edgesF (rs.take i)).length + j + 1 : Nat) : Int)) rfl rfl (wadd (a := (edgesF (rs.take i)).length + j) (b := 1) (by omega)) ?_)
   refine W1 (OpT.assign (.int .i64 ((((edgesF (rs.take i)).length + j + 1 : Nat) : Int))) rfl ?_)
   refine WL.nil ?_
   refine blkQ_n ?_
   refine thenQ_n ?_
   refine WC.region ?_
   refine W1 (OpT.move (ni j) e1199 ?_)
   refine W1 (OpT.iadd .i64 (((j : Nat) : Int)) (1) (((j + 1 : Nat) : Int)) rfl rfl (wadd (a := j) (b := 1) (by omega)) ?_)
   refine W1 (OpT.assign (ni (j + 1)) rfl ?_)
   refine WL.nil ?_
   have st1202 : St Z114 w119 w1189 (L) := St.selT [Blk b147 47 [(.string x142.frm), (.string x142.to), (.int .i8 (1)), (.int .i64 (x142.rule))]] [] rfl (by decide) st1188
   exact loopQ_n _ (by omega) ⟨j + 1, rfl, by omega, rfl, rfl, e1191, e1192, e1194, e1195, e1196, e1197, e1198, st1202⟩
  refine WC.exit ?_
  refine thenQ_x ?_
  refine loopQ_x ?_
  refine blkQ_hit ?_
  refine blkQ_n ?_
  refine thenQ_n ?_
  refine WC.region ?_
  refine W1 (OpT.move (ni i) hs135 ?_)
  refine W1 (OpT.iadd .i64 (((i : Nat) : Int)) (1) (((i + 1 : Nat) : Int)) rfl rfl (wadd (a := i) (b := 1) (by omega)) ?_)
  refine W1 (OpT.assign (ni (i + 1)) rfl ?_)
  refine WL.nil ?_
  have eL := edges_len hrl
  exact loopQ_n _ (by omega) ⟨i + 1, Z114, w119, rfl, by omega, (hxx.trans (hx93.trans hx115)), (hs132.trans (congrArg (fun n : Nat => Value.int .i64 (n : Int)) (show (edgesF (rs.take i)).length + j = (edgesF (rs.take (i + 1))).length from by omega))), rfl, hs133, hs134, st129⟩
 refine WC.exit ?_
 refine thenQ_x ?_
 refine loopQ_x ?_
 refine blkQ_hit ?_
 refine thenQ_n ?_
 refine WC.seq ?_
 have eT : (edgesF (rs.take i)).length = (edgesF rs).length := by rw [List.take_of_length_le (by omega)]
 refine WC.region ?_
 refine W1 (OpT.move (.int .i64 ((((edgesF (rs.take i)).length : Nat) : Int))) hs21 ?_)
 refine W1 (OpT.move v11 hs23 ?_)
 refine W1 (OpT.lenR rfl tu24 hL26 rfl ?_)
 refine W1 (OpT.ieq .i64 ((((edgesF (rs.take i)).length : Nat) : Int)) ((((edgesF rs).length : Nat) : Int)) rfl rfl ?_)
 refine W1 (OpT.move (.bool (decide ((((edgesF (rs.take i)).length : Nat) : Int) = (((edgesF rs).length : Nat) : Int)))) rfl ?_)
 by_cases h1203 : (((edgesF (rs.take i)).length : Nat) : Int) = (((edgesF rs).length : Nat) : Int)
 ·refine W2 (dj := 101) (bT h1203) (OpT.callS cal9 [] [] [] rfl ca0 (HLV st18) ?_)
  rintro v1204 w1205 ⟨rfl, st1206⟩
  refine W1 (OpT.pickT (.bool true) (bT h1203) rfl ?_)
  refine W1 (OpT.assign (.bool true) rfl ?_)
  refine Wnt ?_
  refine WC.ret <| retQ.one (.bool true) rfl ?_
  exact ⟨_, rfl, rfl, (hx8.back (hxx.back st1206))⟩
 refine WL.pass (dj := 101) (c := false) rfl rfl rfl (bF h1203) rfl ?_
 refine W1 (OpT.pickF (.bool false) (bF h1203) rfl ?_)
 refine W1 (OpT.assign (.bool false) rfl ?_)
 refine Wnt ?_
 refine WC.ret <| retQ.one (.bool false) rfl ?_
 exfalso
 omega

end Go.Ped
