/- Parts F43 of the proof. -/
import Derived.Test.YtojkakpkmfopbaaGreatLa5
set_option linter.unusedVariables false
set_option maxRecDepth 20000
namespace Go.Ped
open Go Go.Eng Go.RowKit Go.Proofs

theorem cal6 : CallOk Tryz.prog 6 := ⟨⟨Tryz.f6, Tryz.func6, rfl, by decide⟩⟩
theorem cal10 : CallOk Tryz.prog 10 := ⟨⟨Tryz.f10, Tryz.func10, rfl, by decide⟩⟩
theorem tu4 : Tryz.prog.underlying 4 = some (.bool) := by kernel_rfl
theorem cal11 : CallOk Tryz.prog 11 := ⟨⟨Tryz.f11, Tryz.func11, rfl, by decide⟩⟩
theorem cal12 : CallOk Tryz.prog 12 := ⟨⟨Tryz.f12, Tryz.func12, rfl, by decide⟩⟩
theorem nok_of {rs : List Rul} (hsz : ∀ x ∈ rs, x.pred.size ≤ maxLen ∧ ∀ y ∈ x.body, y.atom.pred.size ≤ maxLen) (h : beyondB rs = false) : NOk rs := ⟨hsz, by obtain ⟨_, h2⟩ := bsum_bnd rs 0 (by omega) h; omega⟩
theorem RL_len {rs : List Rul} {RL : ByteArray → List ByteArray} (hRL : ∀ x, RchL rs x (RL x)) (hN : NOk rs) (x : ByteArray) : (RL x).length < 4194304 := by
  have h := nd_le (N := x :: (drawF rs).map Prod.fst) (hRL x).nod (fun y hy => by
    rcases reach_in (((hRL x).mem y).1 hy) with rfl | h
    · simp
    · exact List.mem_cons_of_mem _ h)
  have := hN.g.len
  simp at h; omega
theorem Reach_at {RL : ByteArray → List ByteArray} {rs0 : List Rul} (hRL : ∀ x, RchL rs0 x (RL x)) {Z : Nat → Prop} {w0 w : World} {L : List Res} (st : St Z w0 w L) (rv : Value) (rs : List Rul) (hr : rRul.sl Z w0 rv rs0) (HB : Bnd rs0) (hN : NOk rs0) (x : ByteArray) (hxs : x.size ≤ maxLen) :
    Calls Tryz.prog 10 #[.agg #[rv], .string x] w (Ret fun r w' => r.oneCell' = true ∧ r.cells = #[r] ∧ St Z w0 w' (Row 9 1 r (RL x).length ((RL x).map Value.string) :: L)) := by
  refine (Reach_spec st rv rs0 hr HB hN x hxs).mono ?_
  rintro e w' ⟨r, rfl, xs, h1, h2, h3, st'⟩
  have e := h1.uniq (hRL x)
  subst e
  exact ⟨_, rfl, h2, h3, st'⟩
theorem kind_cases {rs : List Rul} {k : Nat} {d : Edg} (hd : (edgesF rs)[k]? = some d) (h : d.kind ≠ 1) : d.kind = 2 ∨ d.kind = 3 ∨ d.kind = 4 := by
  obtain ⟨i, r, hi, y, hy, rfl⟩ := mem_edges.1 (List.mem_of_getElem? hd)
  unfold edgOf kindOf at *
  simp only at *
  split at h <;> (try split at h) <;> (try split at h) <;> simp_all
theorem bad_iff {rs : List Rul} {RL : ByteArray → List ByteArray} (hRL : ∀ x, RchL rs x (RL x)) {e : Edg} : Bad rs e ↔ e.kind ≠ 1 ∧ hasB (RL e.to) e.frm = true := by
  unfold Bad
  rw [hasB_iff, (hRL _).mem]
theorem map_at {f : ByteArray → Int} {l : List ByteArray} {i : Nat} {x : ByteArray} (h : l[i]? = some x) : (l.map fun s => (⟨s, f s⟩ : Lvl))[i]? = some ⟨x, f x⟩ := by rw [List.getElem?_map, h]; rfl
theorem rise_at {rs : List Rul} {i : Nat} {a b : ByteArray} (h0 : 0 < i) (ha : (namesG (drawF rs))[i - 1]? = some a) (hb : (namesG (drawF rs))[i]? = some b) : Op.bytesLess a.toList b.toList = true := by
  obtain ⟨a1, a2⟩ := List.getElem?_eq_some_iff.1 ha
  obtain ⟨b1, b2⟩ := List.getElem?_eq_some_iff.1 hb
  have hs := List.pairwise_iff_getElem.1 (isort_sorted ((drawF rs).map Prod.fst)) (i - 1) i a1 b1 (by omega)
  have hd := List.pairwise_iff_getElem.1 ((isort_perm ((drawF rs).map Prod.fst)).nodup_iff.2 (draw_nodup rs)) (i - 1) i a1 b1 (by omega)
  have hs : leS a b = true := by rw [← a2, ← b2]; exact hs
  have hd : a ≠ b := by rw [← a2, ← b2]; exact hd
  refine (ltS_iff a b).2 ?_
  cases h : leS b a with
  | false => rfl
  | true => exact absurd (leS_anti hs h) hd
theorem lvo_len {rs : List Rul} (hN : NOk rs) {ls : List Lvl} {n e : Int} (h : LvO rs ls n e) : ls.length < 2097152 := by
  cases h with
  | bad _ _ _ => simp
  | good _ _ _ => rw [List.length_map]; unfold namesG; rw [isort_len, List.length_map]; exact hN.g.len
theorem Least_spec {Z : Nat → Prop} {w0 w : World} {L : List Res} (st : St Z w0 w L) (v : Value) (rs : List Rul) (hv : rRul.sl Z w0 v rs) (hsz : ∀ x ∈ rs, x.pred.size ≤ maxLen ∧ ∀ y ∈ x.body, y.atom.pred.size ≤ maxLen) : Calls Tryz.prog 3 #[v] w (Ret fun r w' => r = .bool true ∧ St Z w0 w' L) := by
 have hal := Rl.sl_le hv
 refine calls_of_WC (m := 217) (rs := [.tmp 2]) Tryz.func3 rfl rfl rfl rfl ?_
 refine Wsr ?_
 refine W1 (OpT.assign (.bool false) rfl ?_)
 refine Wnt ?_
 refine WC.seq ?_
 refine Wsr ?_
 refine W1 (OpT.move v rfl ?_)
 refine W1 (OpT.callS cal6 [] [] [v] rfl (ca1 rfl) (BeyondRules_spec st _ _ hv) ?_)
 rintro v1 w2 ⟨rfl, st3⟩
 refine Wnt ?_
 refine WC.cond ((beyondB rs)) rfl (fun h4 => ?_) (fun h4 => ?_)
 ·refine WC.seq ?_
  refine WC.region ?_
  refine W1 (OpT.assign (.bool true) rfl ?_)
  refine Wnt ?_
  refine WC.ret <| thenQ_r <| retQ.one (.bool true) rfl ?_
  exact ⟨_, rfl, rfl, st3⟩
 have HB := Bnd.of h4
 have hN : NOk rs := nok_of hsz h4
 obtain ⟨K, ls, n9, e9, hlv, hlo⟩ := lev_total hN
 obtain ⟨RL, hRL⟩ := reach_all rs
 have hRLl := RL_len hRL hN
 have hel : (edgesF rs).length < 1048576 := Nat.lt_of_le_of_lt (edgesF_len rs) HB.b
 have hll : ls.length < 2097152 := lvo_len hN hlo
 have hnl : (namesG (drawF rs)).length < 2097152 := by unfold namesG; rw [isort_len, List.length_map]; exact hN.g.len
 refine WC.skip ?_
 refine thenQ_n ?_
 refine Wsr ?_
 refine W1 (OpT.move v rfl ?_)
 refine W1 (OpT.build [(0, v)] [v] tz25 tp25 (mp1 rfl) (by first | (simp [Instr.fill, Value.cells, (Rl.sl_cells hv)]; done) | simp [Instr.fill, (Rl.sl_cells hv), Value.cells.eq_2, show ∀ cs, (Value.agg cs).cells = cs from fun _ => rfl]) ?_)
 refine W1 (OpT.alloc st3 (.agg #[vn]) [vn] tz25 rfl (fun b5 w6 st7 => ?_))
 refine WL.stepN (OpT.storeA st7 0 1 [v] rfl ts25 rfl rfl (aC (Rl.sl_one hv) aN) rfl rfl (fun w8 st9 => ?_))
 refine Wns ?_
 refine W1 (OpT.loadA ⟨b5, 0, none⟩ 1 [v] ta25 ts25 rfl ((st9.rowB (i := 0) rfl).part 0 1) rfl ?_)
 refine W1 (OpT.callS cal7 [] [] [(.agg #[v])] rfl (ca1 rfl) (Edges_spec st9 _ rs hv HB) ?_)
 rintro v12 w13 ⟨o10, c11, st14⟩
 refine W1 (OpT.assign v12 rfl ?_)
 refine Wns ?_
 refine W1 (OpT.loadA ⟨b5, 0, none⟩ 1 [v] ta25 ts25 rfl ((st14.rowB (i := 1) rfl).part 0 1) rfl ?_)
 refine W1 (OpT.callS cal8 [] [] [(.agg #[v])] rfl (ca1 rfl) (Levels_spec (K := K) st14 _ rs hv HB hN.g hlv) ?_)
 rintro v18 w19 ⟨lv17, o15, c16, rfl, st20⟩
 refine W1 (OpT.move (.tuple #[lv17, (.int .i64 (n9)), (.int .i64 (e9))]) rfl ?_)
 refine W1 (OpT.extract [lv17, (.int .i64 (n9)), (.int .i64 (e9))] lv17 rfl rfl ?_)
 refine W1 (OpT.extract [lv17, (.int .i64 (n9)), (.int .i64 (e9))] (.int .i64 (n9)) rfl rfl ?_)
 refine W1 (OpT.extract [lv17, (.int .i64 (n9)), (.int .i64 (e9))] (.int .i64 (e9)) rfl rfl ?_)
 refine W1 (OpT.assign lv17 rfl ?_)
 refine W1 (OpT.assign (.int .i64 (n9)) rfl ?_)
 refine W1 (OpT.assign (.int .i64 (e9)) rfl ?_)
 refine Wnt ?_
 refine WC.seq ?_
 obtain ⟨Z21, hx22, hs23, st24⟩ := St.freezeRow (r := rEdg) (xs := (edgesF rs)) ((St.selD 3 [1, 0, 2] rfl rfl (by decide) st20) : St Z w0 w19 (Row 35 4 v12 (edgesF rs).length ((edgesF rs).flatMap ecs) :: Row 41 2 lv17 ls.length (ls.flatMap lcs) :: Blk b5 25 [v] :: L)) (by omega) (rowsE ((edgesF rs))).2
 have hL25 := hx22.sl hv
 obtain ⟨Z26, hx27, hs28, st29⟩ := St.freezeRow (r := rLvl) (xs := ls) (st24 : St Z21 w19 w19 (Row 41 2 lv17 ls.length (ls.flatMap lcs) :: Blk b5 25 [v] :: L)) (by omega) (rowsL (ls)).2
 have hL30 := hx27.sl hL25
 have hL31 := hx27.sl hs23
 obtain ⟨pb, rfl⟩ : ∃ x, x = b5 := ⟨_, rfl⟩
 refine WC.region ?_
 refine W1 (OpT.assign (ii (-1)) rfl ?_)
 refine Wnt ?_
 refine WC.seqJ (fun ρ wz => ∃ (bd : Int), (∃ i, FB rs i bd ∧ ((edgesF rs).length ≤ i ∨ 0 ≤ bd)) ∧ ρ 8 = (.int .i64 (bd)) ∧ ρ 4 = v12 ∧ ρ 5 = lv17 ∧ ρ 6 = (.int .i64 (n9)) ∧ ρ 7 = (.int .i64 (e9)) ∧ St Z26 w19 wz (L)) ?_ ?_
 ·refine WC.seq ?_
  refine WC.region ?_
  refine W1 (OpT.assign (ii 0) rfl ?_)
  refine Wnt ?_
  refine WC.block ?_
  refine WC.loop (fun m ρ wz => ∃ (i : Nat), ∃ (bd : Int), m = (edgesF rs).length - i ∧ i ≤ (edgesF rs).length ∧ FB rs i bd ∧ ρ 8 = (.int .i64 (bd)) ∧ ρ 9 = (ni i) ∧ ρ 3 = (pt pb 0) ∧ ρ 4 = v12 ∧ ρ 5 = lv17 ∧ ρ 6 = (.int .i64 (n9)) ∧ ρ 7 = (.int .i64 (e9)) ∧ St Z26 w19 wz (Blk pb 25 [v] :: L)) _ ⟨0, -1, rfl, by omega, .inl ⟨rfl, fun j d hj => absurd hj (Nat.not_lt_zero _)⟩, rfl, rfl, rfl, rfl, rfl, rfl, rfl, st29⟩ ?_
  rintro m32 ρ33 w34 ⟨i, bd, hm44, hp36, HF, hs38, hs37, hs39, hs40, hs41, hs42, hs43, st35⟩
  refine WC.seq ?_
  refine Wsr ?_
  refine W1 (OpT.move (ni i) hs37 ?_)
  refine W1 (OpT.move v12 hs40 ?_)
  refine W1 (OpT.lenR rfl tu26 hL31 rfl ?_)
  refine W1 (OpT.ilt .i64 (((i : Nat) : Int)) ((((edgesF rs).length : Nat) : Int)) rfl rfl ?_)
  refine W1 (OpT.move (.bool (decide (((i : Nat) : Int) < (((edgesF rs).length : Nat) : Int)))) rfl ?_)
  by_cases h45 : ((i : Nat) : Int) < (((edgesF rs).length : Nat) : Int)
  ·refine W2 (dj := 33) (bT h45) (OpT.move (.int .i64 (bd)) hs38 ?_)
   refine W2 (dj := 33) (bT h45) (OpT.ilt .i64 (bd) (0) rfl rfl ?_)
   refine W1 (OpT.pickT (.bool (decide (bd < 0))) (bT h45) rfl ?_)
   refine Wnt ?_
   refine WC.condP (bd < 0) rfl (fun h46 => ?_) (fun h46 => ?_)
   ·obtain rfl := HF.neg h46
    refine WC.skip ?_
    refine thenQ_n ?_
    refine WC.seq ?_
    refine WC.block ?_
    refine WC.seq ?_
    obtain ⟨ed, hed⟩ : ∃ x, (edgesF rs)[i]? = some x := ⟨_, List.getElem?_eq_getElem (by omega)⟩
    obtain ⟨adq1, csq1, hEq1, hrq1, hRq1⟩ := Rl.sl_el hL31 hed
    have hRq1c := hRq1
    obtain rfl := hRq1
    by_cases h47 : ed.kind ≠ 1
    ·have st48 : St Z26 w19 w34 (Blk pb 25 [v] :: L) := st35
     refine WC.drawW (L := (Blk pb 25 [v] :: L)) 21 (fun jj vals vv => match jj with | 0 => vv = v12 | 1 => vv = (ni i) | 2 => vv = (.pointer (some adq1)) | 3 => vv = (.pointer (some (adq1.add 2))) | 4 => vv = (.int .i8 (ed.kind)) | 5 => vv = (.bool (decide (ed.kind ≠ 1))) | 6 => vv = (.bool (decide (ed.kind ≠ 1))) | 7 => vv = (.agg #[v]) | 8 => vv = v12 | 9 => vv = (ni i) | 10 => vv = (.pointer (some adq1)) | 11 => vv = (.pointer (some (adq1.add 1))) | 12 => vv = (.string ed.to) | 13 => vv.oneCell' = true ∧ vv.cells = #[vv] | 14 => vv = v12 | 15 => vv = (ni i) | 16 => vv = (.pointer (some adq1)) | 17 => vv = (.pointer (some adq1)) | 18 => vv = (.string ed.frm) | 19 => vv = (.bool (hasB (RL ed.to) ed.frm)) | 20 => vv = (.bool (hasB (RL ed.to) ed.frm)) | _ => True) (fun jj vals vv => match jj with | 13 => [Row 9 1 vv (RL ed.to).length ((RL ed.to).map Value.string)] | _ => []) (fun jj => match jj with | _ => []) (fun jj => match jj with | 19 => some 13 | _ => none) st48 fmix (by kernel_rfl) (by kernel_rfl) ((obS (obS (obS (obS (obS (obS (obS (obS (obS (obS (obS (obS (obS (obS (obS (obS (obS (obS (obS (obS (obS ob0 (fun aa bb vv h hf => hf)) (fun aa bb vv h hf => hf)) (fun aa bb vv h hf => hf)) (fun aa bb vv h hf => hf)) (fun aa bb vv h hf => hf)) (fun aa bb vv h hf => hf)) (fun aa bb vv h hf => hf)) (fun aa bb vv h hf => hf)) (fun aa bb vv h hf => hf)) (fun aa bb vv h hf => hf)) (fun aa bb vv h hf => hf)) (fun aa bb vv h hf => hf)) (fun aa bb vv h hf => hf)) (fun aa bb vv h hf => hf)) (fun aa bb vv h hf => hf)) (fun aa bb vv h hf => hf)) (fun aa bb vv h hf => hf)) (fun aa bb vv h hf => hf)) (fun aa bb vv h hf => hf)) (fun aa bb vv h hf => hf)) (fun aa bb vv h hf => hf))) ((obS (obS (obS (obS (obS (obS (obS (obS (obS (obS (obS (obS (obS (obS (obS (obS (obS (obS (obS (obS (obS ob0 (fun aa bb vv h => rfl)) (fun aa bb vv h => rfl)) (fun aa bb vv h => rfl)) (fun aa bb vv h => rfl)) (fun aa bb vv h => rfl)) (fun aa bb vv h => rfl)) (fun aa bb vv h => rfl)) (fun aa bb vv h => rfl)) (fun aa bb vv h => rfl)) (fun aa bb vv h => rfl)) (fun aa bb vv h => rfl)) (fun aa bb vv h => rfl)) (fun aa bb vv h => rfl)) (fun aa bb vv h => rfl)) (fun aa bb vv h => rfl)) (fun aa bb vv h => rfl)) (fun aa bb vv h => rfl)) (fun aa bb vv h => rfl)) (fun aa bb vv h => rfl)) (fun aa bb vv h => rfl)) (fun aa bb vv h => rfl))) ((obS (obS (obS (obS (obS (obS (obS (obS (obS (obS (obS (obS (obS (obS (obS (obS (obS (obS (obS (obS (obS ob0 ?_) ?_) ?_) ?_) ?_) ?_) ?_) ?_) ?_) ?_) ?_) ?_) ?_) ?_) ?_) ?_) ?_) ?_) ?_) ?_) ?_)) ?_
     ·intro vals ρ w50 X hd h0 st49
      have e51 : ρ 4 = v12 := (h0 4 rfl).trans hs40
      refine W1 (OpT.move v12 e51 ?_)
      refine WL.nil ?_
      exact oneQ.mk ⟨rfl, st49⟩
     ·intro vals ρ w53 X hd h0 st52
      have e54 : ρ 9 = (ni i) := (h0 9 rfl).trans hs37
      refine W1 (OpT.move (ni i) e54 ?_)
      refine WL.nil ?_
      exact oneQ.mk ⟨rfl, st52⟩
     ·intro vals ρ w56 X hd h0 st55
      have e57 : ρ 39 = v12 := ((hd 0 rfl).2 39 rfl).trans (hd 0 rfl).1
      have e58 : ρ 40 = (ni i) := ((hd 1 rfl).2 40 rfl).trans (hd 1 rfl).1
      refine W1 (OpT.idxE tu26 ts35 e57 .i64 (i) e58 hEq1 ?_)
      refine WL.nil ?_
      exact oneQ.mk ⟨rfl, st55⟩
     ·intro vals ρ w65 X hd h0 st64
      have e66 : ρ 41 = (.pointer (some adq1)) := ((hd 2 rfl).2 41 rfl).trans (hd 2 rfl).1
      refine W1 (OpT.field 2 adq1 (adq1.add 2) tf35_2 e66 rfl ?_)
      refine WL.nil ?_
      exact oneQ.mk ⟨rfl, st64⟩
     ·intro vals ρ w68 X hd h0 st67
      have e69 : ρ 42 = (.pointer (some (adq1.add 2))) := ((hd 3 rfl).2 42 rfl).trans (hd 3 rfl).1
      refine W1 (OpT.loadS (adq1.add 2) (.int .i8 (ed.kind)) ta33 e69 (hrq1.cell st67 (j := 2) rfl) ?_)
      refine WL.nil ?_
      exact oneQ.mk ⟨rfl, st67⟩
     ·intro vals ρ w71 X hd h0 st70
      have e72 : ρ 43 = (.int .i8 (ed.kind)) := ((hd 4 rfl).2 43 rfl).trans (hd 4 rfl).1
      refine W1 (OpT.ine .i8 (ed.kind) (1) e72 rfl ?_)
      refine WL.nil ?_
      exact oneQ.mk ⟨rfl, st70⟩
     ·intro vals ρ w74 X hd h0 st73
      have e75 : ρ 44 = (.bool (decide (ed.kind ≠ 1))) := ((hd 5 rfl).2 44 rfl).trans (hd 5 rfl).1
      refine W1 (OpT.move (.bool (decide (ed.kind ≠ 1))) e75 ?_)
      refine WL.nil ?_
      exact oneQ.mk ⟨rfl, st73⟩
     ·intro vals ρ w77 X hd h0 st76
      have e78 : ρ 3 = (pt pb 0) := (h0 3 rfl).trans hs39
      have e79 : ρ 45 = (.bool (decide (ed.kind ≠ 1))) := ((hd 6 rfl).2 45 rfl).trans (hd 6 rfl).1
      refine W2 (dj := 45) (e79.trans (bT h47)) (OpT.loadA ⟨pb, 0, none⟩ 1 [v] ta25 ts25 e78 ((st76.rowB (i := 0) rfl).part 0 1) rfl ?_)
      refine WL.nil ?_
      exact oneQ.mk ⟨rfl, st76⟩
     ·intro vals ρ w81 X hd h0 st80
      have e82 : ρ 4 = v12 := (h0 4 rfl).trans hs40
      have e83 : ρ 45 = (.bool (decide (ed.kind ≠ 1))) := ((hd 6 rfl).2 45 rfl).trans (hd 6 rfl).1
      refine W2 (dj := 45) (e83.trans (bT h47)) (OpT.move v12 e82 ?_)
      refine WL.nil ?_
      exact oneQ.mk ⟨rfl, st80⟩
     ·intro vals ρ w85 X hd h0 st84
      have e86 : ρ 9 = (ni i) := (h0 9 rfl).trans hs37
      have e87 : ρ 45 = (.bool (decide (ed.kind ≠ 1))) := ((hd 6 rfl).2 45 rfl).trans (hd 6 rfl).1
      refine W2 (dj := 45) (e87.trans (bT h47)) (OpT.move (ni i) e86 ?_)
      refine WL.nil ?_
      exact oneQ.mk ⟨rfl, st84⟩
     ·intro vals ρ w89 X hd h0 st88
      have e90 : ρ 45 = (.bool (decide (ed.kind ≠ 1))) := ((hd 6 rfl).2 45 rfl).trans (hd 6 rfl).1
      have e91 : ρ 47 = v12 := ((hd 8 rfl).2 47 rfl).trans (hd 8 rfl).1
      have e92 : ρ 48 = (ni i) := ((hd 9 rfl).2 48 rfl).trans (hd 9 rfl).1
      refine W2 (dj := 45) (e90.trans (bT h47)) (OpT.idxE tu26 ts35 e91 .i64 (i) e92 hEq1 ?_)
      refine WL.nil ?_
      exact oneQ.mk ⟨rfl, st88⟩
     ·intro vals ρ w99 X hd h0 st98
      have e100 : ρ 45 = (.bool (decide (ed.kind ≠ 1))) := ((hd 6 rfl).2 45 rfl).trans (hd 6 rfl).1
      have e101 : ρ 49 = (.pointer (some adq1)) := ((hd 10 rfl).2 49 rfl).trans (hd 10 rfl).1
      refine W2 (dj := 45) (e100.trans (bT h47)) (OpT.field 1 adq1 (adq1.add 1) tf35_1 e101 rfl ?_)
      refine WL.nil ?_
      exact oneQ.mk ⟨rfl, st98⟩
     ·intro vals ρ w103 X hd h0 st102
      have e104 : ρ 45 = (.bool (decide (ed.kind ≠ 1))) := ((hd 6 rfl).2 45 rfl).trans (hd 6 rfl).1
      have e105 : ρ 50 = (.pointer (some (adq1.add 1))) := ((hd 11 rfl).2 50 rfl).trans (hd 11 rfl).1
      refine W2 (dj := 45) (e104.trans (bT h47)) (OpT.loadS (adq1.add 1) (.string ed.to) ta9 e105 (hrq1.cell st102 (j := 1) rfl) ?_)
      refine WL.nil ?_
      exact oneQ.mk ⟨rfl, st102⟩
     ·intro vals ρ w107 X hd h0 st106
      have e108 : ρ 45 = (.bool (decide (ed.kind ≠ 1))) := ((hd 6 rfl).2 45 rfl).trans (hd 6 rfl).1
      have e109 : ρ 46 = (.agg #[v]) := ((hd 7 rfl).2 46 rfl).trans (hd 7 rfl).1
      have e110 : ρ 51 = (.string ed.to) := ((hd 12 rfl).2 51 rfl).trans (hd 12 rfl).1
      refine W2 (dj := 45) (e108.trans (bT h47)) (OpT.callS cal10 [] [] [(.agg #[v]), (.string ed.to)] rfl (ca2 e109 e110) (Reach_at hRL st106 _ rs hL30 HB hN ed.to (hN.edge (List.mem_of_getElem? hed)).2) ?_)
      rintro v113 w114 ⟨o111, c112, st115⟩
      refine WL.nil ?_
      exact oneQ.mk ⟨⟨o111, c112⟩, st115⟩
     ·intro vals ρ w117 X hd h0 st116
      have e118 : ρ 4 = v12 := (h0 4 rfl).trans hs40
      have e119 : ρ 45 = (.bool (decide (ed.kind ≠ 1))) := ((hd 6 rfl).2 45 rfl).trans (hd 6 rfl).1
      refine W2 (dj := 45) (e119.trans (bT h47)) (OpT.move v12 e118 ?_)
      refine WL.nil ?_
      exact oneQ.mk ⟨rfl, st116⟩
     ·intro vals ρ w121 X hd h0 st120
      have e122 : ρ 9 = (ni i) := (h0 9 rfl).trans hs37
      have e123 : ρ 45 = (.bool (decide (ed.kind ≠ 1))) := ((hd 6 rfl).2 45 rfl).trans (hd 6 rfl).1
      refine W2 (dj := 45) (e123.trans (bT h47)) (OpT.move (ni i) e122 ?_)
      refine WL.nil ?_
      exact oneQ.mk ⟨rfl, st120⟩
     ·intro vals ρ w125 X hd h0 st124
      have e126 : ρ 45 = (.bool (decide (ed.kind ≠ 1))) := ((hd 6 rfl).2 45 rfl).trans (hd 6 rfl).1
      have e127 : ρ 53 = v12 := ((hd 14 rfl).2 53 rfl).trans (hd 14 rfl).1
      have e128 : ρ 54 = (ni i) := ((hd 15 rfl).2 54 rfl).trans (hd 15 rfl).1
      refine W2 (dj := 45) (e126.trans (bT h47)) (OpT.idxE tu26 ts35 e127 .i64 (i) e128 hEq1 ?_)
      refine WL.nil ?_
      exact oneQ.mk ⟨rfl, st124⟩
     ·intro vals ρ w135 X hd h0 st134
      have e136 : ρ 45 = (.bool (decide (ed.kind ≠ 1))) := ((hd 6 rfl).2 45 rfl).trans (hd 6 rfl).1
      have e137 : ρ 55 = (.pointer (some adq1)) := ((hd 16 rfl).2 55 rfl).trans (hd 16 rfl).1
      refine W2 (dj := 45) (e136.trans (bT h47)) (OpT.field 0 adq1 adq1 tf35_0 e137 rfl ?_)
      refine WL.nil ?_
      exact oneQ.mk ⟨rfl, st134⟩
     ·intro vals ρ w139 X hd h0 st138
      have e140 : ρ 45 = (.bool (decide (ed.kind ≠ 1))) := ((hd 6 rfl).2 45 rfl).trans (hd 6 rfl).1
      have e141 : ρ 56 = (.pointer (some adq1)) := ((hd 17 rfl).2 56 rfl).trans (hd 17 rfl).1
      refine W2 (dj := 45) (e140.trans (bT h47)) (OpT.loadS adq1 (.string ed.frm) ta9 e141 (hrq1.cell st138 (j := 0) rfl) ?_)
      refine WL.nil ?_
      exact oneQ.mk ⟨rfl, st138⟩
     ·intro vals ρ w143 X hd h0 st142
      have e144 : ρ 45 = (.bool (decide (ed.kind ≠ 1))) := ((hd 6 rfl).2 45 rfl).trans (hd 6 rfl).1
      have o146 : (vals 13).oneCell' = true := (hd 13 rfl).1.1
      have c147 : (vals 13).cells = #[vals 13] := (hd 13 rfl).1.2
      have e145 : ρ 52 = (vals 13) := ((hd 13 rfl).2 52 rfl)
      have e148 : ρ 57 = (.string ed.frm) := ((hd 18 rfl).2 57 rfl).trans (hd 18 rfl).1
      obtain ⟨Z149, hz150, hw151, hr152, st153, bk154⟩ := St.freezeStr (xs := (RL ed.to)) (st142 : St Z26 w19 w143 (Row 9 1 (vals 13) (RL ed.to).length ((RL ed.to).map Value.string) :: Blk pb 25 [v] :: (L ++ X))) (Nat.lt_trans (hRLl _) (by decide))
      refine W2 (dj := 45) (e144.trans (bT h47)) (OpT.callS cal9 [] [] [(vals 13), (.string ed.frm)] rfl (ca2 e145 e148) (lhas_spec st153 hr152 ed.frm) ?_)
      rintro v155 w156 ⟨rfl, st157⟩
      replace st157 := bk154 _ _ st157
      refine WL.nil ?_
      exact oneQ.mk ⟨rfl, st157⟩
     ·intro vals ρ w159 X hd h0 st158
      have e160 : ρ 45 = (.bool (decide (ed.kind ≠ 1))) := ((hd 6 rfl).2 45 rfl).trans (hd 6 rfl).1
      have e161 : ρ 58 = (.bool (hasB (RL ed.to) ed.frm)) := ((hd 19 rfl).2 58 rfl).trans (hd 19 rfl).1
      refine W1 (OpT.pickT (.bool (hasB (RL ed.to) ed.frm)) (e160.trans (bT h47)) e161 ?_)
      refine WL.nil ?_
      exact oneQ.mk ⟨rfl, st158⟩
     intro vals ρ164 w163 hv h0 st162
     replace st162 : St Z26 w19 w163 (Row 9 1 (vals 13) (RL ed.to).length ((RL ed.to).map Value.string) :: Blk pb 25 [v] :: L) := st162
     have e165 : ρ164 3 = (pt pb 0) := (h0 3 rfl).trans hs39
     have e166 : ρ164 4 = v12 := (h0 4 rfl).trans hs40
     have e167 : ρ164 5 = lv17 := (h0 5 rfl).trans hs41
     have e168 : ρ164 6 = (.int .i64 (n9)) := (h0 6 rfl).trans hs42
     have e169 : ρ164 7 = (.int .i64 (e9)) := (h0 7 rfl).trans hs43
     have e170 : ρ164 8 = (ii (-1)) := (h0 8 rfl).trans hs38
     have e171 : ρ164 9 = (ni i) := (h0 9 rfl).trans hs37
     have e172 : ρ164 59 = (.bool (hasB (RL ed.to) ed.frm)) := ((hv 20 rfl).2 59 rfl).trans (hv 20 rfl).1
     have o173 : (vals 13).oneCell' = true := (hv 13 rfl).1.1
     have c174 : (vals 13).cells = #[vals 13] := (hv 13 rfl).1.2
     clear hv h0
     generalize vals 13 = v175 at *
     refine Wnt ?_
     refine WC.cond ((hasB (RL ed.to) ed.frm)) e172 (fun h176 => ?_) (fun h176 => ?_)
     ·refine WC.region ?_
      refine W1 (OpT.move (ni i) e171 ?_)
      refine W1 (OpT.assign (ni i) rfl ?_)
      refine WL.nil ?_
      refine blkQ_n ?_
      refine thenQ_n ?_
      refine WC.region ?_
      refine W1 (OpT.move (ni i) e171 ?_)
      refine W1 (OpT.iadd .i64 (((i : Nat) : Int)) (1) (((i + 1 : Nat) : Int)) rfl rfl (wadd (a := i) (b := 1) (by omega)) ?_)
      refine W1 (OpT.assign (ni (i + 1)) rfl ?_)
      refine WL.nil ?_
      have hhas : hasB (RL ed.to) ed.frm = true := by simpa using h176
      have st177 : St Z26 w19 w163 (Blk pb 25 [v] :: L) := St.selT [Row 9 1 v175 (RL ed.to).length ((RL ed.to).map Value.string), Blk pb 25 [v]] [1] rfl (by decide) st162
      exact loopQ_n _ (by omega) ⟨i + 1, ((i : Nat) : Int), rfl, by omega, HF.hit hed ((bad_iff hRL).2 ⟨h47, hhas⟩) _, rfl, rfl, e165, e166, e167, e168, e169, st177⟩
     refine WC.skip ?_
     refine blkQ_n ?_
     refine thenQ_n ?_
     refine WC.region ?_
     refine W1 (OpT.move (ni i) e171 ?_)
     refine W1 (OpT.iadd .i64 (((i : Nat) : Int)) (1) (((i + 1 : Nat) : Int)) rfl rfl (wadd (a := i) (b := 1) (by omega)) ?_)
     refine W1 (OpT.assign (ni (i + 1)) rfl ?_)
     refine WL.nil ?_
     have hhas : hasB (RL ed.to) ed.frm = false := by simpa using h176
     have st178 : St Z26 w19 w163 (Blk pb 25 [v] :: L) := St.selT [Row 9 1 v175 (RL ed.to).length ((RL ed.to).map Value.string), Blk pb 25 [v]] [1] rfl (by decide) st162
     exact loopQ_n _ (by omega) ⟨i + 1, -1, rfl, by omega, HF.step hed (fun hb => by have h1 := ((bad_iff hRL).1 hb).2; rw [hhas] at h1; cases h1), e170, rfl, e165, e166, e167, e168, e169, st178⟩
    refine WC.draw 21 (fun jj vv => match jj with | 0 => vv = v12 | 1 => vv = (ni i) | 2 => vv = (.pointer (some adq1)) | 3 => vv = (.pointer (some (adq1.add 2))) | 4 => vv = (.int .i8 (ed.kind)) | 5 => vv = (.bool (decide (ed.kind ≠ 1))) | 6 => vv = (.bool (decide (ed.kind ≠ 1))) | 7 => vv = undef | 8 => vv = undef | 9 => vv = undef | 10 => vv = undef | 11 => vv = undef | 12 => vv = undef | 13 => vv = undef | 14 => vv = undef | 15 => vv = undef | 16 => vv = undef | 17 => vv = undef | 18 => vv = undef | 19 => vv = undef | 20 => vv = (.bool false) | _ => True) (fun _ _ => []) st35 fmix (by kernel_rfl) ((obS (obS (obS (obS (obS (obS (obS (obS (obS (obS (obS (obS (obS (obS (obS (obS (obS (obS (obS (obS (obS ob0 ?_) ?_) ?_) ?_) ?_) ?_) ?_) ?_) ?_) ?_) ?_) ?_) ?_) ?_) ?_) ?_) ?_) ?_) ?_) ?_) ?_)) ?_
    ·intro vals ρ w180 X hd h0 st179
     have e181 : ρ 4 = v12 := (h0 4 rfl).trans hs40
     refine W1 (OpT.move v12 e181 ?_)
     refine WL.nil ?_
     exact oneQ.mk ⟨rfl, st179⟩
    ·intro vals ρ w183 X hd h0 st182
     have e184 : ρ 9 = (ni i) := (h0 9 rfl).trans hs37
     refine W1 (OpT.move (ni i) e184 ?_)
     refine WL.nil ?_
     exact oneQ.mk ⟨rfl, st182⟩
    ·intro vals ρ w186 X hd h0 st185
     have e187 : ρ 39 = v12 := ((hd 0 rfl).2 39 rfl).trans (hd 0 rfl).1
     have e188 : ρ 40 = (ni i) := ((hd 1 rfl).2 40 rfl).trans (hd 1 rfl).1
     refine W1 (OpT.idxE tu26 ts35 e187 .i64 (i) e188 hEq1 ?_)
     refine WL.nil ?_
     exact oneQ.mk ⟨rfl, st185⟩
    ·intro vals ρ w195 X hd h0 st194
     have e196 : ρ 41 = (.pointer (some adq1)) := ((hd 2 rfl).2 41 rfl).trans (hd 2 rfl).1
     refine W1 (OpT.field 2 adq1 (adq1.add 2) tf35_2 e196 rfl ?_)
     refine WL.nil ?_
     exact oneQ.mk ⟨rfl, st194⟩
    ·intro vals ρ w198 X hd h0 st197
     have e199 : ρ 42 = (.pointer (some (adq1.add 2))) := ((hd 3 rfl).2 42 rfl).trans (hd 3 rfl).1
     refine W1 (OpT.loadS (adq1.add 2) (.int .i8 (ed.kind)) ta33 e199 (hrq1.cell st197 (j := 2) rfl) ?_)
     refine WL.nil ?_
     exact oneQ.mk ⟨rfl, st197⟩
    ·intro vals ρ w201 X hd h0 st200
     have e202 : ρ 43 = (.int .i8 (ed.kind)) := ((hd 4 rfl).2 43 rfl).trans (hd 4 rfl).1
     refine W1 (OpT.ine .i8 (ed.kind) (1) e202 rfl ?_)
     refine WL.nil ?_
     exact oneQ.mk ⟨rfl, st200⟩
    ·intro vals ρ w204 X hd h0 st203
     have e205 : ρ 44 = (.bool (decide (ed.kind ≠ 1))) := ((hd 5 rfl).2 44 rfl).trans (hd 5 rfl).1
     refine W1 (OpT.move (.bool (decide (ed.kind ≠ 1))) e205 ?_)
     refine WL.nil ?_
     exact oneQ.mk ⟨rfl, st203⟩
    ·intro vals ρ w207 X hd h0 st206
     have e208 : ρ 3 = (pt pb 0) := (h0 3 rfl).trans hs39
     have e209 : ρ 45 = (.bool (decide (ed.kind ≠ 1))) := ((hd 6 rfl).2 45 rfl).trans (hd 6 rfl).1
     refine WL.pass (dj := 45) (c := false) rfl rfl rfl (e209.trans (bF h47)) rfl ?_
     refine WL.nil ?_
     exact oneQ.mk ⟨rfl, st206⟩
    ·intro vals ρ w211 X hd h0 st210
     have e212 : ρ 4 = v12 := (h0 4 rfl).trans hs40
     have e213 : ρ 45 = (.bool (decide (ed.kind ≠ 1))) := ((hd 6 rfl).2 45 rfl).trans (hd 6 rfl).1
     refine WL.pass (dj := 45) (c := false) rfl rfl rfl (e213.trans (bF h47)) rfl ?_
     refine WL.nil ?_
     exact oneQ.mk ⟨rfl, st210⟩
    ·intro vals ρ w215 X hd h0 st214
     have e216 : ρ 9 = (ni i) := (h0 9 rfl).trans hs37
     have e217 : ρ 45 = (.bool (decide (ed.kind ≠ 1))) := ((hd 6 rfl).2 45 rfl).trans (hd 6 rfl).1
     refine WL.pass (dj := 45) (c := false) rfl rfl rfl (e217.trans (bF h47)) rfl ?_
     refine WL.nil ?_
     exact oneQ.mk ⟨rfl, st214⟩
    ·intro vals ρ w219 X hd h0 st218
     have e220 : ρ 45 = (.bool (decide (ed.kind ≠ 1))) := ((hd 6 rfl).2 45 rfl).trans (hd 6 rfl).1
     have e221 : ρ 47 = undef := ((hd 8 rfl).2 47 rfl).trans (hd 8 rfl).1
     have e222 : ρ 48 = undef := ((hd 9 rfl).2 48 rfl).trans (hd 9 rfl).1
     refine WL.pass (dj := 45) (c := false) rfl rfl rfl (e220.trans (bF h47)) rfl ?_
     refine WL.nil ?_
     exact oneQ.mk ⟨rfl, st218⟩
    ·intro vals ρ w224 X hd h0 st223
     have e225 : ρ 45 = (.bool (decide (ed.kind ≠ 1))) := ((hd 6 rfl).2 45 rfl).trans (hd 6 rfl).1
     have e226 : ρ 49 = undef := ((hd 10 rfl).2 49 rfl).trans (hd 10 rfl).1
     refine WL.pass (dj := 45) (c := false) rfl rfl rfl (e225.trans (bF h47)) rfl ?_
     refine WL.nil ?_
     exact oneQ.mk ⟨rfl, st223⟩
    ·intro vals ρ w228 X hd h0 st227
     have e229 : ρ 45 = (.bool (decide (ed.kind ≠ 1))) := ((hd 6 rfl).2 45 rfl).trans (hd 6 rfl).1
     have e230 : ρ 50 = undef := ((hd 11 rfl).2 50 rfl).trans (hd 11 rfl).1
     refine WL.pass (dj := 45) (c := false) rfl rfl rfl (e229.trans (bF h47)) rfl ?_
     refine WL.nil ?_
     exact oneQ.mk ⟨rfl, st227⟩
    ·intro vals ρ w232 X hd h0 st231
     have e233 : ρ 45 = (.bool (decide (ed.kind ≠ 1))) := ((hd 6 rfl).2 45 rfl).trans (hd 6 rfl).1
     have e234 : ρ 46 = undef := ((hd 7 rfl).2 46 rfl).trans (hd 7 rfl).1
     have e235 : ρ 51 = undef := ((hd 12 rfl).2 51 rfl).trans (hd 12 rfl).1
     refine WL.pass (dj := 45) (c := false) rfl rfl rfl (e233.trans (bF h47)) rfl ?_
     refine WL.nil ?_
     exact oneQ.mk ⟨rfl, st231⟩
    ·intro vals ρ w237 X hd h0 st236
     have e238 : ρ 4 = v12 := (h0 4 rfl).trans hs40
     have e239 : ρ 45 = (.bool (decide (ed.kind ≠ 1))) := ((hd 6 rfl).2 45 rfl).trans (hd 6 rfl).1
     refine WL.pass (dj := 45) (c := false) rfl rfl rfl (e239.trans (bF h47)) rfl ?_
     refine WL.nil ?_
     exact oneQ.mk ⟨rfl, st236⟩
    ·intro vals ρ w241 X hd h0 st240
     have e242 : ρ 9 = (ni i) := (h0 9 rfl).trans hs37
     have e243 : ρ 45 = (.bool (decide (ed.kind ≠ 1))) := ((hd 6 rfl).2 45 rfl).trans (hd 6 rfl).1
     refine WL.pass (dj := 45) (c := false) rfl rfl rfl (e243.trans (bF h47)) rfl ?_
     refine WL.nil ?_
     exact oneQ.mk ⟨rfl, st240⟩
    ·intro vals ρ w245 X hd h0 st244
     have e246 : ρ 45 = (.bool (decide (ed.kind ≠ 1))) := ((hd 6 rfl).2 45 rfl).trans (hd 6 rfl).1
     have e247 : ρ 53 = undef := ((hd 14 rfl).2 53 rfl).trans (hd 14 rfl).1
     have e248 : ρ 54 = undef := ((hd 15 rfl).2 54 rfl).trans (hd 15 rfl).1
     refine WL.pass (dj := 45) (c := false) rfl rfl rfl (e246.trans (bF h47)) rfl ?_
     refine WL.nil ?_
     exact oneQ.mk ⟨rfl, st244⟩
    ·intro vals ρ w250 X hd h0 st249
     have e251 : ρ 45 = (.bool (decide (ed.kind ≠ 1))) := ((hd 6 rfl).2 45 rfl).trans (hd 6 rfl).1
     have e252 : ρ 55 = undef := ((hd 16 rfl).2 55 rfl).trans (hd 16 rfl).1
     refine WL.pass (dj := 45) (c := false) rfl rfl rfl (e251.trans (bF h47)) rfl ?_
     refine WL.nil ?_
     exact oneQ.mk ⟨rfl, st249⟩
    ·intro vals ρ w254 X hd h0 st253
     have e255 : ρ 45 = (.bool (decide (ed.kind ≠ 1))) := ((hd 6 rfl).2 45 rfl).trans (hd 6 rfl).1
     have e256 : ρ 56 = undef := ((hd 17 rfl).2 56 rfl).trans (hd 17 rfl).1
     refine WL.pass (dj := 45) (c := false) rfl rfl rfl (e255.trans (bF h47)) rfl ?_
     refine WL.nil ?_
     exact oneQ.mk ⟨rfl, st253⟩
    ·intro vals ρ w258 X hd h0 st257
     have e259 : ρ 45 = (.bool (decide (ed.kind ≠ 1))) := ((hd 6 rfl).2 45 rfl).trans (hd 6 rfl).1
     have e260 : ρ 52 = undef := ((hd 13 rfl).2 52 rfl).trans (hd 13 rfl).1
     have e261 : ρ 57 = undef := ((hd 18 rfl).2 57 rfl).trans (hd 18 rfl).1
     refine WL.pass (dj := 45) (c := false) rfl rfl rfl (e259.trans (bF h47)) rfl ?_
     refine WL.nil ?_
     exact oneQ.mk ⟨rfl, st257⟩
    ·intro vals ρ w263 X hd h0 st262
     have e264 : ρ 45 = (.bool (decide (ed.kind ≠ 1))) := ((hd 6 rfl).2 45 rfl).trans (hd 6 rfl).1
     have e265 : ρ 58 = undef := ((hd 19 rfl).2 58 rfl).trans (hd 19 rfl).1
     refine W1 (OpT.pickF (.bool false) (e264.trans (bF h47)) rfl ?_)
     refine WL.nil ?_
     exact oneQ.mk ⟨rfl, st262⟩
    intro vals ρ268 w267 hv h0 st266
    replace st266 : St Z26 w19 w267 (Blk pb 25 [v] :: L) := st266
    have e269 : ρ268 3 = (pt pb 0) := (h0 3 rfl).trans hs39
    have e270 : ρ268 4 = v12 := (h0 4 rfl).trans hs40
    have e271 : ρ268 5 = lv17 := (h0 5 rfl).trans hs41
    have e272 : ρ268 6 = (.int .i64 (n9)) := (h0 6 rfl).trans hs42
    have e273 : ρ268 7 = (.int .i64 (e9)) := (h0 7 rfl).trans hs43
    have e274 : ρ268 8 = (ii (-1)) := (h0 8 rfl).trans hs38
    have e275 : ρ268 9 = (ni i) := (h0 9 rfl).trans hs37
    have e276 : ρ268 59 = (.bool false) := ((hv 20 rfl).2 59 rfl).trans (hv 20 rfl).1
    clear hv h0
    refine Wnt ?_
    refine WC.condF e276 ?_
    refine WC.skip ?_
    refine blkQ_n ?_
    refine thenQ_n ?_
    refine WC.region ?_
    refine W1 (OpT.move (ni i) e275 ?_)
    refine W1 (OpT.iadd .i64 (((i : Nat) : Int)) (1) (((i + 1 : Nat) : Int)) rfl rfl (wadd (a := i) (b := 1) (by omega)) ?_)
    refine W1 (OpT.assign (ni (i + 1)) rfl ?_)
    refine WL.nil ?_
    exact loopQ_n _ (by omega) ⟨i + 1, -1, rfl, by omega, HF.step hed (fun hb => h47 ((bad_iff hRL).1 hb).1), e274, rfl, e269, e270, e271, e272, e273, st266⟩
   refine WC.exit ?_
   refine thenQ_x ?_
   refine loopQ_x ?_
   refine blkQ_hit ?_
   refine thenQ_n ?_
   exact ⟨bd, ⟨i, HF, by omega⟩, hs38, hs40, hs41, hs42, hs43, (St.selD 1 [] rfl rfl (by decide) st35)⟩
  refine WL.pass (dj := 33) (c := false) rfl rfl rfl (bF h45) rfl ?_
  refine WL.pass (dj := 33) (c := false) rfl rfl rfl (bF h45) rfl ?_
  refine W1 (OpT.pickF (.bool false) (bF h45) rfl ?_)
  refine Wnt ?_
  refine WC.condF rfl ?_
  refine WC.exit ?_
  refine thenQ_x ?_
  refine loopQ_x ?_
  refine blkQ_hit ?_
  refine thenQ_n ?_
  exact ⟨bd, ⟨i, HF, by omega⟩, hs38, hs40, hs41, hs42, hs43, (St.selD 1 [] rfl rfl (by decide) st35)⟩
 rintro ρ277 w278 ⟨bd, HFE, hs280, hs281, hs282, hs283, hs284, st279⟩
 obtain ⟨i9, HF, hib⟩ := HFE
 refine WC.seq ?_
 refine Wsr ?_
 refine W1 (OpT.move (.int .i64 (e9)) hs284 ?_)
 refine W1 (OpT.ine .i64 (e9) (0) rfl rfl ?_)
 refine Wnt ?_
 refine WC.condP (e9 ≠ 0) rfl (fun h285 => ?_) (fun h285 => ?_)
 ·obtain ⟨hls, kd9, d9, hbk, hd9, hn9, he9, hk9⟩ := FB.bad HF hib hlo h285
  subst hbk hn9 hls
  have hkk := kind_cases hd9 hk9
  refine WC.seq ?_
  refine Wsr ?_
  refine W1 (OpT.move (ni kd9) hs280 ?_)
  refine W1 (OpT.ilt .i64 (((kd9 : Nat) : Int)) (0) rfl rfl ?_)
  refine W1 (OpT.move (.bool (decide (((kd9 : Nat) : Int) < 0))) rfl ?_)
  by_cases h286 : ((kd9 : Nat) : Int) < 0
  ·refine WL.pass (dj := 65) (c := true) rfl rfl rfl (bT h286) rfl ?_
   refine WL.pass (dj := 65) (c := true) rfl rfl rfl (bT h286) rfl ?_
   refine WL.pass (dj := 65) (c := true) rfl rfl rfl (bT h286) rfl ?_
   refine W1 (OpT.pickT (.bool true) (bT h286) rfl ?_)
   refine W1 (OpT.move (.bool true) rfl ?_)
   refine WL.pass (dj := 70) (c := true) rfl rfl rfl rfl rfl ?_
   refine WL.pass (dj := 70) (c := true) rfl rfl rfl rfl rfl ?_
   refine WL.pass (dj := 70) (c := true) rfl rfl rfl rfl rfl ?_
   refine WL.pass (dj := 70) (c := true) rfl rfl rfl rfl rfl ?_
   refine WL.pass (dj := 70) (c := true) rfl rfl rfl rfl rfl ?_
   refine WL.pass (dj := 70) (c := true) rfl rfl rfl rfl rfl ?_
   refine WL.pass (dj := 70) (c := true) rfl rfl rfl rfl rfl ?_
   refine W1 (OpT.pickT (.bool true) rfl rfl ?_)
   refine Wnt ?_
   refine WC.condT rfl ?_
   refine Wsr ?_
   refine W1 (OpT.assign (.bool false) rfl ?_)
   refine Wnt ?_
   refine WC.ret <| thenQ_r <| thenQ_r <| retQ.one (.bool false) rfl ?_
   exfalso
   first | omega | simp_all
  refine W2 (dj := 65) (bF h286) (OpT.move lv17 hs282 ?_)
  refine W2 (dj := 65) (bF h286) (OpT.lenR rfl tu28 hs28 rfl ?_)
  refine W2 (dj := 65) (bF h286) (OpT.ine .i64 (((([] : List Lvl).length : Nat) : Int)) (0) rfl rfl ?_)
  refine W1 (OpT.pickF (.bool (decide (((([] : List Lvl).length : Nat) : Int) ≠ 0))) (bF h286) rfl ?_)
  refine W1 (OpT.move (.bool (decide (((([] : List Lvl).length : Nat) : Int) ≠ 0))) rfl ?_)
  by_cases h287 : ((([] : List Lvl).length : Nat) : Int) ≠ 0
  ·refine WL.pass (dj := 70) (c := true) rfl rfl rfl (bT h287) rfl ?_
   refine WL.pass (dj := 70) (c := true) rfl rfl rfl (bT h287) rfl ?_
   refine WL.pass (dj := 70) (c := true) rfl rfl rfl (bT h287) rfl ?_
   refine WL.pass (dj := 70) (c := true) rfl rfl rfl (bT h287) rfl ?_
   refine WL.pass (dj := 70) (c := true) rfl rfl rfl (bT h287) rfl ?_
   refine WL.pass (dj := 70) (c := true) rfl rfl rfl (bT h287) rfl ?_
   refine WL.pass (dj := 70) (c := true) rfl rfl rfl (bT h287) rfl ?_
   refine W1 (OpT.pickT (.bool true) (bT h287) rfl ?_)
   refine Wnt ?_
   refine WC.condT rfl ?_
   refine Wsr ?_
   refine W1 (OpT.assign (.bool false) rfl ?_)
   refine Wnt ?_
   refine WC.ret <| thenQ_r <| thenQ_r <| retQ.one (.bool false) rfl ?_
   exfalso
   first | omega | simp_all
  refine W2 (dj := 70) (bF h287) (OpT.move (.int .i64 (d9.rule)) hs283 ?_)
  refine W2 (dj := 70) (bF h287) (OpT.move v12 hs281 ?_)
  refine W2 (dj := 70) (bF h287) (OpT.move (ni kd9) hs280 ?_)
  refine W2 (dj := 70) (bF h287) (OpT.idxX tu26 ts35 hL31 rfl .i64 (kd9) rfl hd9 (fun ad289 cs290 hr291 hR292 => ?_))
  have hR292c := hR292
  obtain rfl := hR292
  refine W2 (dj := 70) (bF h287) (OpT.field 3 ad289 (ad289.add 3) tf35_3 rfl rfl ?_)
  refine W2 (dj := 70) (bF h287) (OpT.loadS (ad289.add 3) (.int .i64 (d9.rule)) ta3 rfl (hr291.cell st279 (j := 3) rfl) ?_)
  refine W2 (dj := 70) (bF h287) (OpT.ine .i64 (d9.rule) (d9.rule) rfl rfl ?_)
  refine W1 (OpT.pickF (.bool (decide (d9.rule ≠ d9.rule))) (bF h287) rfl ?_)
  refine Wnt ?_
  refine WC.condP (d9.rule ≠ d9.rule) rfl (fun h293 => ?_) (fun h293 => ?_)
  ·refine WC.seq ?_
   refine WC.region ?_
   refine W1 (OpT.assign (.bool false) rfl ?_)
   refine Wnt ?_
   refine WC.ret <| thenQ_r <| thenQ_r <| retQ.one (.bool false) rfl ?_
   exfalso
   first | omega | simp_all
  refine WC.skip ?_
  refine thenQ_n ?_
  refine Wsr ?_
  refine W1 (OpT.move v12 hs281 ?_)
  refine W1 (OpT.move (ni kd9) hs280 ?_)
  refine W1 (OpT.idxX tu26 ts35 hL31 rfl .i64 (kd9) rfl hd9 (fun ad295 cs296 hr297 hR298 => ?_))
  have hR298c := hR298
  obtain rfl := hR298
  refine W1 (OpT.field 2 ad295 (ad295.add 2) tf35_2 rfl rfl ?_)
  refine W1 (OpT.loadS (ad295.add 2) (.int .i8 (d9.kind)) ta33 rfl (hr297.cell st279 (j := 2) rfl) ?_)
  refine W1 (OpT.assign (.int .i8 (d9.kind)) rfl ?_)
  refine Wnt ?_
  refine WC.seq ?_
  rcases hkk with hk2 | hk2 | hk2
  ·have he2 : e9 = 90 := by rw [he9, hk2]; rfl
   subst he2
   refine WC.region ?_
   refine W1 (OpT.move (ii 90) hs284 ?_)
   refine W1 (OpT.ieq .i64 (90) (90) rfl rfl ?_)
   refine W1 (OpT.move (.int .i8 (d9.kind)) rfl ?_)
   refine W1 (OpT.ieq .i8 (d9.kind) (2) rfl rfl ?_)
   refine W1 (OpT.bieq true true true tu4 (bT rfl) (bT hk2) rfl ?_)
   refine W1 (OpT.move (.bool true) rfl ?_)
   refine W2 (dj := 89) rfl (OpT.move (ii 90) hs284 ?_)
   refine W2 (dj := 89) rfl (OpT.ieq .i64 (90) (91) rfl rfl ?_)
   refine W2 (dj := 89) rfl (OpT.move (.int .i8 (d9.kind)) rfl ?_)
   refine W2 (dj := 89) rfl (OpT.ieq .i8 (d9.kind) (3) rfl rfl ?_)
   refine W2 (dj := 89) rfl (OpT.bieq false false true tu4 (bF (by decide)) (bF (by omega)) rfl ?_)
   refine W1 (OpT.pickT (.bool true) rfl rfl ?_)
   refine W1 (OpT.move (.bool true) rfl ?_)
   refine W2 (dj := 96) rfl (OpT.move (ii 90) hs284 ?_)
   refine W2 (dj := 96) rfl (OpT.ieq .i64 (90) (92) rfl rfl ?_)
   refine W2 (dj := 96) rfl (OpT.move (.int .i8 (d9.kind)) rfl ?_)
   refine W2 (dj := 96) rfl (OpT.ieq .i8 (d9.kind) (4) rfl rfl ?_)
   refine W2 (dj := 96) rfl (OpT.bieq false false true tu4 (bF (by decide)) (bF (by omega)) rfl ?_)
   refine W1 (OpT.pickT (.bool true) rfl rfl ?_)
   refine W1 (OpT.move (.bool true) rfl ?_)
   refine W2 (dj := 103) rfl (OpT.callS cal11 [] [] [] rfl ca0 (lives_spec st279) ?_)
   rintro v299 w300 ⟨rfl, st301⟩
   refine W1 (OpT.pickT (.bool true) rfl rfl ?_)
   refine W1 (OpT.assign (.bool true) rfl ?_)
   refine Wnt ?_
   refine WC.ret <| thenQ_r <| retQ.one (.bool true) rfl ?_
   exact ⟨_, rfl, rfl, (hx22.back (hx27.back st301))⟩
  ·have he2 : e9 = 91 := by rw [he9, hk2]; rfl
   subst he2
   refine WC.region ?_
   refine W1 (OpT.move (ii 91) hs284 ?_)
   refine W1 (OpT.ieq .i64 (91) (90) rfl rfl ?_)
   refine W1 (OpT.move (.int .i8 (d9.kind)) rfl ?_)
   refine W1 (OpT.ieq .i8 (d9.kind) (2) rfl rfl ?_)
   refine W1 (OpT.bieq false false true tu4 (bF (by decide)) (bF (by omega)) rfl ?_)
   refine W1 (OpT.move (.bool true) rfl ?_)
   refine W2 (dj := 89) rfl (OpT.move (ii 91) hs284 ?_)
   refine W2 (dj := 89) rfl (OpT.ieq .i64 (91) (91) rfl rfl ?_)
   refine W2 (dj := 89) rfl (OpT.move (.int .i8 (d9.kind)) rfl ?_)
   refine W2 (dj := 89) rfl (OpT.ieq .i8 (d9.kind) (3) rfl rfl ?_)
   refine W2 (dj := 89) rfl (OpT.bieq true true true tu4 (bT rfl) (bT hk2) rfl ?_)
   refine W1 (OpT.pickT (.bool true) rfl rfl ?_)
   refine W1 (OpT.move (.bool true) rfl ?_)
   refine W2 (dj := 96) rfl (OpT.move (ii 91) hs284 ?_)
   refine W2 (dj := 96) rfl (OpT.ieq .i64 (91) (92) rfl rfl ?_)
   refine W2 (dj := 96) rfl (OpT.move (.int .i8 (d9.kind)) rfl ?_)
   refine W2 (dj := 96) rfl (OpT.ieq .i8 (d9.kind) (4) rfl rfl ?_)
   refine W2 (dj := 96) rfl (OpT.bieq false false true tu4 (bF (by decide)) (bF (by omega)) rfl ?_)
   refine W1 (OpT.pickT (.bool true) rfl rfl ?_)
   refine W1 (OpT.move (.bool true) rfl ?_)
   refine W2 (dj := 103) rfl (OpT.callS cal11 [] [] [] rfl ca0 (lives_spec st279) ?_)
   rintro v302 w303 ⟨rfl, st304⟩
   refine W1 (OpT.pickT (.bool true) rfl rfl ?_)
   refine W1 (OpT.assign (.bool true) rfl ?_)
   refine Wnt ?_
   refine WC.ret <| thenQ_r <| retQ.one (.bool true) rfl ?_
   exact ⟨_, rfl, rfl, (hx22.back (hx27.back st304))⟩
  have he2 : e9 = 92 := by rw [he9, hk2]; rfl
  subst he2
  refine WC.region ?_
  refine W1 (OpT.move (ii 92) hs284 ?_)
  refine W1 (OpT.ieq .i64 (92) (90) rfl rfl ?_)
  refine W1 (OpT.move (.int .i8 (d9.kind)) rfl ?_)
  refine W1 (OpT.ieq .i8 (d9.kind) (2) rfl rfl ?_)
  refine W1 (OpT.bieq false false true tu4 (bF (by decide)) (bF (by omega)) rfl ?_)
  refine W1 (OpT.move (.bool true) rfl ?_)
  refine W2 (dj := 89) rfl (OpT.move (ii 92) hs284 ?_)
  refine W2 (dj := 89) rfl (OpT.ieq .i64 (92) (91) rfl rfl ?_)
  refine W2 (dj := 89) rfl (OpT.move (.int .i8 (d9.kind)) rfl ?_)
  refine W2 (dj := 89) rfl (OpT.ieq .i8 (d9.kind) (3) rfl rfl ?_)
  refine W2 (dj := 89) rfl (OpT.bieq false false true tu4 (bF (by decide)) (bF (by omega)) rfl ?_)
  refine W1 (OpT.pickT (.bool true) rfl rfl ?_)
  refine W1 (OpT.move (.bool true) rfl ?_)
  refine W2 (dj := 96) rfl (OpT.move (ii 92) hs284 ?_)
  refine W2 (dj := 96) rfl (OpT.ieq .i64 (92) (92) rfl rfl ?_)
  refine W2 (dj := 96) rfl (OpT.move (.int .i8 (d9.kind)) rfl ?_)
  refine W2 (dj := 96) rfl (OpT.ieq .i8 (d9.kind) (4) rfl rfl ?_)
  refine W2 (dj := 96) rfl (OpT.bieq true true true tu4 (bT rfl) (bT hk2) rfl ?_)
  refine W1 (OpT.pickT (.bool true) rfl rfl ?_)
  refine W1 (OpT.move (.bool true) rfl ?_)
  refine W2 (dj := 103) rfl (OpT.callS cal11 [] [] [] rfl ca0 (lives_spec st279) ?_)
  rintro v305 w306 ⟨rfl, st307⟩
  refine W1 (OpT.pickT (.bool true) rfl rfl ?_)
  refine W1 (OpT.assign (.bool true) rfl ?_)
  refine Wnt ?_
  refine WC.ret <| thenQ_r <| retQ.one (.bool true) rfl ?_
  exact ⟨_, rfl, rfl, (hx22.back (hx27.back st307))⟩
 obtain ⟨hb9, hn9, f, hlev, hfb, hls⟩ := FB.good HF hlo (Classical.not_not.1 h285)
 subst hb9 hn9 hls
 have hml : ((namesG (drawF rs)).map fun s => (⟨s, f s⟩ : Lvl)).length = (namesG (drawF rs)).length := List.length_map ..
 refine WC.skip ?_
 refine thenQ_n ?_
 refine WC.seq ?_
 refine Wsr ?_
 refine W1 (OpT.move (ii (-1)) hs280 ?_)
 refine W1 (OpT.ige .i64 (-1) (0) rfl rfl ?_)
 refine W1 (OpT.move (.bool (decide ((0 : Int) ≤ -1))) rfl ?_)
 by_cases h308 : (0 : Int) ≤ -1
 ·refine WL.pass (dj := 108) (c := true) rfl rfl rfl (bT h308) rfl ?_
  refine WL.pass (dj := 108) (c := true) rfl rfl rfl (bT h308) rfl ?_
  refine W1 (OpT.pickT (.bool true) (bT h308) rfl ?_)
  refine Wnt ?_
  refine WC.condT rfl ?_
  refine Wsr ?_
  refine W1 (OpT.assign (.bool false) rfl ?_)
  refine Wnt ?_
  refine WC.ret <| thenQ_r <| retQ.one (.bool false) rfl ?_
  exfalso
  first | omega | simp_all
 refine W2 (dj := 108) (bF h308) (OpT.move (ii 0) hs283 ?_)
 refine W2 (dj := 108) (bF h308) (OpT.ine .i64 (0) (0) rfl rfl ?_)
 refine W1 (OpT.pickF (.bool (decide ((0 : Int) ≠ 0))) (bF h308) rfl ?_)
 refine Wnt ?_
 refine WC.condP ((0 : Int) ≠ 0) rfl (fun h309 => ?_) (fun h309 => ?_)
 ·refine WC.seq ?_
  refine WC.region ?_
  refine W1 (OpT.assign (.bool false) rfl ?_)
  refine Wnt ?_
  refine WC.ret <| thenQ_r <| retQ.one (.bool false) rfl ?_
  exfalso
  first | omega | simp_all
 refine WC.skip ?_
 refine thenQ_n ?_
 refine WC.seq ?_
 refine Wsr ?_
 refine W1 (OpT.assign (ii 0) rfl ?_)
 refine Wnt ?_
 refine WC.block ?_
 refine WC.loop (fun m ρ wz => ∃ (i : Nat), m = ((namesG (drawF rs)).map fun s => (⟨s, f s⟩ : Lvl)).length - i ∧ i ≤ ((namesG (drawF rs)).map fun s => (⟨s, f s⟩ : Lvl)).length ∧ ρ 11 = (ni i) ∧ ρ 4 = v12 ∧ ρ 5 = lv17 ∧ St Z26 w19 wz (L)) _ ⟨0, rfl, by omega, rfl, hs281, hs282, st279⟩ ?_
 rintro m310 ρ311 w312 ⟨i, hm318, hp314, hs315, hs316, hs317, st313⟩
 refine WC.seq ?_
 refine Wsr ?_
 refine W1 (OpT.move (ni i) hs315 ?_)
 refine W1 (OpT.move lv17 hs317 ?_)
 refine W1 (OpT.lenR rfl tu28 hs28 rfl ?_)
 refine W1 (OpT.ilt .i64 (((i : Nat) : Int)) (((((namesG (drawF rs)).map fun s => (⟨s, f s⟩ : Lvl)).length : Nat) : Int)) rfl rfl ?_)
 refine Wnt ?_
 refine WC.condP (((i : Nat) : Int) < ((((namesG (drawF rs)).map fun s => (⟨s, f s⟩ : Lvl)).length : Nat) : Int)) rfl (fun h319 => ?_) (fun h319 => ?_)
 ·refine WC.skip ?_
  refine thenQ_n ?_
  refine WC.seq ?_
  refine WC.block ?_
  refine WC.seq ?_
  obtain ⟨nm9, hnm9⟩ : ∃ x, (namesG (drawF rs))[i]? = some x := ⟨_, List.getElem?_eq_getElem (by omega)⟩
  have hfp := hlev.sol.pos nm9
  by_cases h320 : 0 < ((i : Nat) : Int)
  ·obtain ⟨nm8, hnm8⟩ : ∃ x, (namesG (drawF rs))[i - 1]? = some x := ⟨_, List.getElem?_eq_getElem (by omega)⟩
   have hrise := rise_at (by omega) hnm8 hnm9
   obtain ⟨adq2, csq2, hEq2, hrq2, hRq2⟩ := Rl.sl_el hs28 (map_at hnm8)
   have hRq2c := hRq2
   obtain rfl := hRq2
   obtain ⟨adq3, csq3, hEq3, hrq3, hRq3⟩ := Rl.sl_el hs28 (map_at hnm9)
   have hRq3c := hRq3
   obtain rfl := hRq3
   by_cases h321 : 0 < (f nm9)
   ·refine WC.draw 48 (fun jj vv => match jj with | 0 => vv = (ni i) | 1 => vv = (.bool (decide (0 < ((i : Nat) : Int)))) | 2 => vv = (.bool (decide (0 < ((i : Nat) : Int)))) | 3 => vv = lv17 | 4 => vv = (ni i) | 5 => vv = (ni (i - 1)) | 6 => vv = (.pointer (some adq2)) | 7 => vv = (.pointer (some adq2)) | 8 => vv = (.string nm8) | 9 => vv = lv17 | 10 => vv = (ni i) | 11 => vv = (.pointer (some adq3)) | 12 => vv = (.pointer (some adq3)) | 13 => vv = (.string nm9) | 14 => vv = (.bool (!Op.bytesLess (nm8).toList (nm9).toList)) | 15 => vv = (.bool (!Op.bytesLess (nm8).toList (nm9).toList)) | 16 => vv = (.bool (!Op.bytesLess (nm8).toList (nm9).toList)) | 17 => vv = lv17 | 18 => vv = (ni i) | 19 => vv = (.pointer (some adq3)) | 20 => vv = (.pointer (some (adq3.add 1))) | 21 => vv = (.int .i32 (f nm9)) | 22 => vv = (.bool (decide ((f nm9) < 0))) | 23 => vv = (.bool (decide ((f nm9) < 0))) | 24 => vv = (.bool (decide ((f nm9) < 0))) | 25 => vv = lv17 | 26 => vv = (ni i) | 27 => vv = (.pointer (some adq3)) | 28 => vv = (.pointer (some (adq3.add 1))) | 29 => vv = (.int .i32 (f nm9)) | 30 => vv = (.bool (decide (0 < (f nm9)))) | 31 => vv = (.bool (decide (0 < (f nm9)))) | 32 => vv = v12 | 33 => vv = lv17 | 34 => vv = lv17 | 35 => vv = (ni i) | 36 => vv = (.pointer (some adq3)) | 37 => vv = (.pointer (some adq3)) | 38 => vv = (.string nm9) | 39 => vv = lv17 | 40 => vv = (ni i) | 41 => vv = (.pointer (some adq3)) | 42 => vv = (.pointer (some (adq3.add 1))) | 43 => vv = (.int .i32 (f nm9)) | 44 => vv = (.bool true) | 45 => vv = (.bool false) | 46 => vv = (.bool false) | 47 => vv = (.bool false) | _ => True) (fun _ _ => []) st313 fmix (by kernel_rfl) ((obS (obS (obS (obS (obS (obS (obS (obS (obS (obS (obS (obS (obS (obS (obS (obS (obS (obS (obS (obS (obS (obS (obS (obS (obS (obS (obS (obS (obS (obS (obS (obS (obS (obS (obS (obS (obS (obS (obS (obS (obS (obS (obS (obS (obS (obS (obS (obS ob0 ?_) ?_) ?_) ?_) ?_) ?_) ?_) ?_) ?_) ?_) ?_) ?_) ?_) ?_) ?_) ?_) ?_) ?_) ?_) ?_) ?_) ?_) ?_) ?_) ?_) ?_) ?_) ?_) ?_) ?_) ?_) ?_) ?_) ?_) ?_) ?_) ?_) ?_) ?_) ?_) ?_) ?_) ?_) ?_) ?_) ?_) ?_) ?_)) ?_
    ·intro vals ρ w323 X hd h0 st322
     have e324 : ρ 11 = (ni i) := (h0 11 rfl).trans hs315
     refine W1 (OpT.move (ni i) e324 ?_)
     refine WL.nil ?_
     exact oneQ.mk ⟨rfl, st322⟩
    ·intro vals ρ w326 X hd h0 st325
     have e327 : ρ 118 = (ni i) := ((hd 0 rfl).2 118 rfl).trans (hd 0 rfl).1
     refine W1 (OpT.igt .i64 (((i : Nat) : Int)) (0) e327 rfl ?_)
     refine WL.nil ?_
     exact oneQ.mk ⟨rfl, st325⟩
    ·intro vals ρ w329 X hd h0 st328
     have e330 : ρ 119 = (.bool (decide (0 < ((i : Nat) : Int)))) := ((hd 1 rfl).2 119 rfl).trans (hd 1 rfl).1
     refine W1 (OpT.move (.bool (decide (0 < ((i : Nat) : Int)))) e330 ?_)
     refine WL.nil ?_
     exact oneQ.mk ⟨rfl, st328⟩
    ·intro vals ρ w332 X hd h0 st331
     have e333 : ρ 5 = lv17 := (h0 5 rfl).trans hs317
     have e334 : ρ 120 = (.bool (decide (0 < ((i : Nat) : Int)))) := ((hd 2 rfl).2 120 rfl).trans (hd 2 rfl).1
     refine W2 (dj := 120) (e334.trans (bT h320)) (OpT.move lv17 e333 ?_)
     refine WL.nil ?_
     exact oneQ.mk ⟨rfl, st331⟩
    ·intro vals ρ w336 X hd h0 st335
     have e337 : ρ 11 = (ni i) := (h0 11 rfl).trans hs315
     have e338 : ρ 120 = (.bool (decide (0 < ((i : Nat) : Int)))) := ((hd 2 rfl).2 120 rfl).trans (hd 2 rfl).1
     refine W2 (dj := 120) (e338.trans (bT h320)) (OpT.move (ni i) e337 ?_)
     refine WL.nil ?_
     exact oneQ.mk ⟨rfl, st335⟩
    ·intro vals ρ w340 X hd h0 st339
     have e341 : ρ 120 = (.bool (decide (0 < ((i : Nat) : Int)))) := ((hd 2 rfl).2 120 rfl).trans (hd 2 rfl).1
     have e342 : ρ 122 = (ni i) := ((hd 4 rfl).2 122 rfl).trans (hd 4 rfl).1
     refine W2 (dj := 120) (e341.trans (bT h320)) (OpT.isub .i64 (((i : Nat) : Int)) (1) (((i - 1 : Nat) : Int)) e342 rfl (wsub (a := i) (b := 1) (by omega) (by omega)) ?_)
     refine WL.nil ?_
     exact oneQ.mk ⟨rfl, st339⟩
    ·intro vals ρ w344 X hd h0 st343
     have e345 : ρ 120 = (.bool (decide (0 < ((i : Nat) : Int)))) := ((hd 2 rfl).2 120 rfl).trans (hd 2 rfl).1
     have e346 : ρ 121 = lv17 := ((hd 3 rfl).2 121 rfl).trans (hd 3 rfl).1
     have e347 : ρ 123 = (ni (i - 1)) := ((hd 5 rfl).2 123 rfl).trans (hd 5 rfl).1
     refine W2 (dj := 120) (e345.trans (bT h320)) (OpT.idxE tu28 ts41 e346 .i64 (i - 1) e347 hEq2 ?_)
     refine WL.nil ?_
     exact oneQ.mk ⟨rfl, st343⟩
    ·intro vals ρ w354 X hd h0 st353
     have e355 : ρ 120 = (.bool (decide (0 < ((i : Nat) : Int)))) := ((hd 2 rfl).2 120 rfl).trans (hd 2 rfl).1
     have e356 : ρ 124 = (.pointer (some adq2)) := ((hd 6 rfl).2 124 rfl).trans (hd 6 rfl).1
     refine W2 (dj := 120) (e355.trans (bT h320)) (OpT.field 0 adq2 adq2 tf41_0 e356 rfl ?_)
     refine WL.nil ?_
     exact oneQ.mk ⟨rfl, st353⟩
    ·intro vals ρ w358 X hd h0 st357
     have e359 : ρ 120 = (.bool (decide (0 < ((i : Nat) : Int)))) := ((hd 2 rfl).2 120 rfl).trans (hd 2 rfl).1
     have e360 : ρ 125 = (.pointer (some adq2)) := ((hd 7 rfl).2 125 rfl).trans (hd 7 rfl).1
     refine W2 (dj := 120) (e359.trans (bT h320)) (OpT.loadS adq2 (.string nm8) ta9 e360 (hrq2.cell st357 (j := 0) rfl) ?_)
     refine WL.nil ?_
     exact oneQ.mk ⟨rfl, st357⟩
    ·intro vals ρ w362 X hd h0 st361
     have e363 : ρ 5 = lv17 := (h0 5 rfl).trans hs317
     have e364 : ρ 120 = (.bool (decide (0 < ((i : Nat) : Int)))) := ((hd 2 rfl).2 120 rfl).trans (hd 2 rfl).1
     refine W2 (dj := 120) (e364.trans (bT h320)) (OpT.move lv17 e363 ?_)
     refine WL.nil ?_
     exact oneQ.mk ⟨rfl, st361⟩
    ·intro vals ρ w366 X hd h0 st365
     have e367 : ρ 11 = (ni i) := (h0 11 rfl).trans hs315
     have e368 : ρ 120 = (.bool (decide (0 < ((i : Nat) : Int)))) := ((hd 2 rfl).2 120 rfl).trans (hd 2 rfl).1
     refine W2 (dj := 120) (e368.trans (bT h320)) (OpT.move (ni i) e367 ?_)
     refine WL.nil ?_
     exact oneQ.mk ⟨rfl, st365⟩
    ·intro vals ρ w370 X hd h0 st369
     have e371 : ρ 120 = (.bool (decide (0 < ((i : Nat) : Int)))) := ((hd 2 rfl).2 120 rfl).trans (hd 2 rfl).1
     have e372 : ρ 127 = lv17 := ((hd 9 rfl).2 127 rfl).trans (hd 9 rfl).1
     have e373 : ρ 128 = (ni i) := ((hd 10 rfl).2 128 rfl).trans (hd 10 rfl).1
     refine W2 (dj := 120) (e371.trans (bT h320)) (OpT.idxE tu28 ts41 e372 .i64 (i) e373 hEq3 ?_)
     refine WL.nil ?_
     exact oneQ.mk ⟨rfl, st369⟩
    ·intro vals ρ w380 X hd h0 st379
     have e381 : ρ 120 = (.bool (decide (0 < ((i : Nat) : Int)))) := ((hd 2 rfl).2 120 rfl).trans (hd 2 rfl).1
     have e382 : ρ 129 = (.pointer (some adq3)) := ((hd 11 rfl).2 129 rfl).trans (hd 11 rfl).1
     refine W2 (dj := 120) (e381.trans (bT h320)) (OpT.field 0 adq3 adq3 tf41_0 e382 rfl ?_)
     refine WL.nil ?_
     exact oneQ.mk ⟨rfl, st379⟩
    ·intro vals ρ w384 X hd h0 st383
     have e385 : ρ 120 = (.bool (decide (0 < ((i : Nat) : Int)))) := ((hd 2 rfl).2 120 rfl).trans (hd 2 rfl).1
     have e386 : ρ 130 = (.pointer (some adq3)) := ((hd 12 rfl).2 130 rfl).trans (hd 12 rfl).1
     refine W2 (dj := 120) (e385.trans (bT h320)) (OpT.loadS adq3 (.string nm9) ta9 e386 (hrq3.cell st383 (j := 0) rfl) ?_)
     refine WL.nil ?_
     exact oneQ.mk ⟨rfl, st383⟩
    ·intro vals ρ w388 X hd h0 st387
     have e389 : ρ 120 = (.bool (decide (0 < ((i : Nat) : Int)))) := ((hd 2 rfl).2 120 rfl).trans (hd 2 rfl).1
     have e390 : ρ 126 = (.string nm8) := ((hd 8 rfl).2 126 rfl).trans (hd 8 rfl).1
     have e391 : ρ 131 = (.string nm9) := ((hd 13 rfl).2 131 rfl).trans (hd 13 rfl).1
     refine W2 (dj := 120) (e389.trans (bT h320)) (OpT.sge (nm8) (nm9) e390 e391 ?_)
     refine WL.nil ?_
     exact oneQ.mk ⟨rfl, st387⟩
    ·intro vals ρ w393 X hd h0 st392
     have e394 : ρ 120 = (.bool (decide (0 < ((i : Nat) : Int)))) := ((hd 2 rfl).2 120 rfl).trans (hd 2 rfl).1
     have e395 : ρ 132 = (.bool (!Op.bytesLess (nm8).toList (nm9).toList)) := ((hd 14 rfl).2 132 rfl).trans (hd 14 rfl).1
     refine W1 (OpT.pickT (.bool (!Op.bytesLess (nm8).toList (nm9).toList)) (e394.trans (bT h320)) e395 ?_)
     refine WL.nil ?_
     exact oneQ.mk ⟨rfl, st392⟩
    ·intro vals ρ w397 X hd h0 st396
     have e398 : ρ 133 = (.bool (!Op.bytesLess (nm8).toList (nm9).toList)) := ((hd 15 rfl).2 133 rfl).trans (hd 15 rfl).1
     refine W1 (OpT.move (.bool (!Op.bytesLess (nm8).toList (nm9).toList)) e398 ?_)
     refine WL.nil ?_
     exact oneQ.mk ⟨rfl, st396⟩
    ·intro vals ρ w400 X hd h0 st399
     have e401 : ρ 5 = lv17 := (h0 5 rfl).trans hs317
     have e402 : ρ 134 = (.bool (!Op.bytesLess (nm8).toList (nm9).toList)) := ((hd 16 rfl).2 134 rfl).trans (hd 16 rfl).1
     refine W2 (dj := 134) (e402.trans (congrArg Value.bool (by rw [hrise]; rfl))) (OpT.move lv17 e401 ?_)
     refine WL.nil ?_
     exact oneQ.mk ⟨rfl, st399⟩
    ·intro vals ρ w404 X hd h0 st403
     have e405 : ρ 11 = (ni i) := (h0 11 rfl).trans hs315
     have e406 : ρ 134 = (.bool (!Op.bytesLess (nm8).toList (nm9).toList)) := ((hd 16 rfl).2 134 rfl).trans (hd 16 rfl).1
     refine W2 (dj := 134) (e406.trans (congrArg Value.bool (by rw [hrise]; rfl))) (OpT.move (ni i) e405 ?_)
     refine WL.nil ?_
     exact oneQ.mk ⟨rfl, st403⟩
    ·intro vals ρ w408 X hd h0 st407
     have e409 : ρ 134 = (.bool (!Op.bytesLess (nm8).toList (nm9).toList)) := ((hd 16 rfl).2 134 rfl).trans (hd 16 rfl).1
     have e410 : ρ 135 = lv17 := ((hd 17 rfl).2 135 rfl).trans (hd 17 rfl).1
     have e411 : ρ 136 = (ni i) := ((hd 18 rfl).2 136 rfl).trans (hd 18 rfl).1
     refine W2 (dj := 134) (e409.trans (congrArg Value.bool (by rw [hrise]; rfl))) (OpT.idxE tu28 ts41 e410 .i64 (i) e411 hEq3 ?_)
     refine WL.nil ?_
     exact oneQ.mk ⟨rfl, st407⟩
    ·intro vals ρ w418 X hd h0 st417
     have e419 : ρ 134 = (.bool (!Op.bytesLess (nm8).toList (nm9).toList)) := ((hd 16 rfl).2 134 rfl).trans (hd 16 rfl).1
     have e420 : ρ 137 = (.pointer (some adq3)) := ((hd 19 rfl).2 137 rfl).trans (hd 19 rfl).1
     refine W2 (dj := 134) (e419.trans (congrArg Value.bool (by rw [hrise]; rfl))) (OpT.field 1 adq3 (adq3.add 1) tf41_1 e420 rfl ?_)
     refine WL.nil ?_
     exact oneQ.mk ⟨rfl, st417⟩
    ·intro vals ρ w422 X hd h0 st421
     have e423 : ρ 134 = (.bool (!Op.bytesLess (nm8).toList (nm9).toList)) := ((hd 16 rfl).2 134 rfl).trans (hd 16 rfl).1
     have e424 : ρ 138 = (.pointer (some (adq3.add 1))) := ((hd 20 rfl).2 138 rfl).trans (hd 20 rfl).1
     refine W2 (dj := 134) (e423.trans (congrArg Value.bool (by rw [hrise]; rfl))) (OpT.loadS (adq3.add 1) (.int .i32 (f nm9)) ta21 e424 (hrq3.cell st421 (j := 1) rfl) ?_)
     refine WL.nil ?_
     exact oneQ.mk ⟨rfl, st421⟩
    ·intro vals ρ w426 X hd h0 st425
     have e427 : ρ 134 = (.bool (!Op.bytesLess (nm8).toList (nm9).toList)) := ((hd 16 rfl).2 134 rfl).trans (hd 16 rfl).1
     have e428 : ρ 139 = (.int .i32 (f nm9)) := ((hd 21 rfl).2 139 rfl).trans (hd 21 rfl).1
     refine W2 (dj := 134) (e427.trans (congrArg Value.bool (by rw [hrise]; rfl))) (OpT.ilt .i32 (f nm9) (0) e428 rfl ?_)
     refine WL.nil ?_
     exact oneQ.mk ⟨rfl, st425⟩
    ·intro vals ρ w430 X hd h0 st429
     have e431 : ρ 134 = (.bool (!Op.bytesLess (nm8).toList (nm9).toList)) := ((hd 16 rfl).2 134 rfl).trans (hd 16 rfl).1
     have e432 : ρ 140 = (.bool (decide ((f nm9) < 0))) := ((hd 22 rfl).2 140 rfl).trans (hd 22 rfl).1
     refine W1 (OpT.pickF (.bool (decide ((f nm9) < 0))) (e431.trans (congrArg Value.bool (by rw [hrise]; rfl))) e432 ?_)
     refine WL.nil ?_
     exact oneQ.mk ⟨rfl, st429⟩
    ·intro vals ρ w434 X hd h0 st433
     have e435 : ρ 141 = (.bool (decide ((f nm9) < 0))) := ((hd 23 rfl).2 141 rfl).trans (hd 23 rfl).1
     refine W1 (OpT.move (.bool (decide ((f nm9) < 0))) e435 ?_)
     refine WL.nil ?_
     exact oneQ.mk ⟨rfl, st433⟩
    ·intro vals ρ w437 X hd h0 st436
     have e438 : ρ 5 = lv17 := (h0 5 rfl).trans hs317
     have e439 : ρ 142 = (.bool (decide ((f nm9) < 0))) := ((hd 24 rfl).2 142 rfl).trans (hd 24 rfl).1
     refine W2 (dj := 142) (e439.trans (bF (by omega))) (OpT.move lv17 e438 ?_)
     refine WL.nil ?_
     exact oneQ.mk ⟨rfl, st436⟩
    ·intro vals ρ w441 X hd h0 st440
     have e442 : ρ 11 = (ni i) := (h0 11 rfl).trans hs315
     have e443 : ρ 142 = (.bool (decide ((f nm9) < 0))) := ((hd 24 rfl).2 142 rfl).trans (hd 24 rfl).1
     refine W2 (dj := 142) (e443.trans (bF (by omega))) (OpT.move (ni i) e442 ?_)
     refine WL.nil ?_
     exact oneQ.mk ⟨rfl, st440⟩
    ·intro vals ρ w445 X hd h0 st444
     have e446 : ρ 142 = (.bool (decide ((f nm9) < 0))) := ((hd 24 rfl).2 142 rfl).trans (hd 24 rfl).1
     have e447 : ρ 143 = lv17 := ((hd 25 rfl).2 143 rfl).trans (hd 25 rfl).1
     have e448 : ρ 144 = (ni i) := ((hd 26 rfl).2 144 rfl).trans (hd 26 rfl).1
     refine W2 (dj := 142) (e446.trans (bF (by omega))) (OpT.idxE tu28 ts41 e447 .i64 (i) e448 hEq3 ?_)
     refine WL.nil ?_
     exact oneQ.mk ⟨rfl, st444⟩
    ·intro vals ρ w455 X hd h0 st454
     have e456 : ρ 142 = (.bool (decide ((f nm9) < 0))) := ((hd 24 rfl).2 142 rfl).trans (hd 24 rfl).1
     have e457 : ρ 145 = (.pointer (some adq3)) := ((hd 27 rfl).2 145 rfl).trans (hd 27 rfl).1
     refine W2 (dj := 142) (e456.trans (bF (by omega))) (OpT.field 1 adq3 (adq3.add 1) tf41_1 e457 rfl ?_)
     refine WL.nil ?_
     exact oneQ.mk ⟨rfl, st454⟩
    ·intro vals ρ w459 X hd h0 st458
     have e460 : ρ 142 = (.bool (decide ((f nm9) < 0))) := ((hd 24 rfl).2 142 rfl).trans (hd 24 rfl).1
     have e461 : ρ 146 = (.pointer (some (adq3.add 1))) := ((hd 28 rfl).2 146 rfl).trans (hd 28 rfl).1
     refine W2 (dj := 142) (e460.trans (bF (by omega))) (OpT.loadS (adq3.add 1) (.int .i32 (f nm9)) ta21 e461 (hrq3.cell st458 (j := 1) rfl) ?_)
     refine WL.nil ?_
     exact oneQ.mk ⟨rfl, st458⟩
    ·intro vals ρ w463 X hd h0 st462
     have e464 : ρ 142 = (.bool (decide ((f nm9) < 0))) := ((hd 24 rfl).2 142 rfl).trans (hd 24 rfl).1
     have e465 : ρ 147 = (.int .i32 (f nm9)) := ((hd 29 rfl).2 147 rfl).trans (hd 29 rfl).1
     refine W2 (dj := 142) (e464.trans (bF (by omega))) (OpT.igt .i32 (f nm9) (0) e465 rfl ?_)
     refine WL.nil ?_
     exact oneQ.mk ⟨rfl, st462⟩
    ·intro vals ρ w467 X hd h0 st466
     have e468 : ρ 142 = (.bool (decide ((f nm9) < 0))) := ((hd 24 rfl).2 142 rfl).trans (hd 24 rfl).1
     have e469 : ρ 148 = (.bool (decide (0 < (f nm9)))) := ((hd 30 rfl).2 148 rfl).trans (hd 30 rfl).1
     refine W2 (dj := 142) (e468.trans (bF (by omega))) (OpT.move (.bool (decide (0 < (f nm9)))) e469 ?_)
     refine WL.nil ?_
     exact oneQ.mk ⟨rfl, st466⟩
    ·intro vals ρ w471 X hd h0 st470
     have e472 : ρ 4 = v12 := (h0 4 rfl).trans hs316
     have e473 : ρ 149 = (.bool (decide (0 < (f nm9)))) := ((hd 31 rfl).2 149 rfl).trans (hd 31 rfl).1
     refine W2 (dj := 149) (e473.trans (bT h321)) (OpT.move v12 e472 ?_)
     refine WL.nil ?_
     exact oneQ.mk ⟨rfl, st470⟩
    ·intro vals ρ w475 X hd h0 st474
     have e476 : ρ 5 = lv17 := (h0 5 rfl).trans hs317
     have e477 : ρ 149 = (.bool (decide (0 < (f nm9)))) := ((hd 31 rfl).2 149 rfl).trans (hd 31 rfl).1
     refine W2 (dj := 149) (e477.trans (bT h321)) (OpT.move lv17 e476 ?_)
     refine WL.nil ?_
     exact oneQ.mk ⟨rfl, st474⟩
    ·intro vals ρ w479 X hd h0 st478
     have e480 : ρ 5 = lv17 := (h0 5 rfl).trans hs317
     have e481 : ρ 149 = (.bool (decide (0 < (f nm9)))) := ((hd 31 rfl).2 149 rfl).trans (hd 31 rfl).1
     refine W2 (dj := 149) (e481.trans (bT h321)) (OpT.move lv17 e480 ?_)
     refine WL.nil ?_
     exact oneQ.mk ⟨rfl, st478⟩
    ·intro vals ρ w483 X hd h0 st482
     have e484 : ρ 11 = (ni i) := (h0 11 rfl).trans hs315
     have e485 : ρ 149 = (.bool (decide (0 < (f nm9)))) := ((hd 31 rfl).2 149 rfl).trans (hd 31 rfl).1
     refine W2 (dj := 149) (e485.trans (bT h321)) (OpT.move (ni i) e484 ?_)
     refine WL.nil ?_
     exact oneQ.mk ⟨rfl, st482⟩
    ·intro vals ρ w487 X hd h0 st486
     have e488 : ρ 149 = (.bool (decide (0 < (f nm9)))) := ((hd 31 rfl).2 149 rfl).trans (hd 31 rfl).1
     have e489 : ρ 152 = lv17 := ((hd 34 rfl).2 152 rfl).trans (hd 34 rfl).1
     have e490 : ρ 153 = (ni i) := ((hd 35 rfl).2 153 rfl).trans (hd 35 rfl).1
     refine W2 (dj := 149) (e488.trans (bT h321)) (OpT.idxE tu28 ts41 e489 .i64 (i) e490 hEq3 ?_)
     refine WL.nil ?_
     exact oneQ.mk ⟨rfl, st486⟩
    ·intro vals ρ w497 X hd h0 st496
     have e498 : ρ 149 = (.bool (decide (0 < (f nm9)))) := ((hd 31 rfl).2 149 rfl).trans (hd 31 rfl).1
     have e499 : ρ 154 = (.pointer (some adq3)) := ((hd 36 rfl).2 154 rfl).trans (hd 36 rfl).1
     refine W2 (dj := 149) (e498.trans (bT h321)) (OpT.field 0 adq3 adq3 tf41_0 e499 rfl ?_)
     refine WL.nil ?_
     exact oneQ.mk ⟨rfl, st496⟩
    ·intro vals ρ w501 X hd h0 st500
     have e502 : ρ 149 = (.bool (decide (0 < (f nm9)))) := ((hd 31 rfl).2 149 rfl).trans (hd 31 rfl).1
     have e503 : ρ 155 = (.pointer (some adq3)) := ((hd 37 rfl).2 155 rfl).trans (hd 37 rfl).1
     refine W2 (dj := 149) (e502.trans (bT h321)) (OpT.loadS adq3 (.string nm9) ta9 e503 (hrq3.cell st500 (j := 0) rfl) ?_)
     refine WL.nil ?_
     exact oneQ.mk ⟨rfl, st500⟩
    ·intro vals ρ w505 X hd h0 st504
     have e506 : ρ 5 = lv17 := (h0 5 rfl).trans hs317
     have e507 : ρ 149 = (.bool (decide (0 < (f nm9)))) := ((hd 31 rfl).2 149 rfl).trans (hd 31 rfl).1
     refine W2 (dj := 149) (e507.trans (bT h321)) (OpT.move lv17 e506 ?_)
     refine WL.nil ?_
     exact oneQ.mk ⟨rfl, st504⟩
    ·intro vals ρ w509 X hd h0 st508
     have e510 : ρ 11 = (ni i) := (h0 11 rfl).trans hs315
     have e511 : ρ 149 = (.bool (decide (0 < (f nm9)))) := ((hd 31 rfl).2 149 rfl).trans (hd 31 rfl).1
     refine W2 (dj := 149) (e511.trans (bT h321)) (OpT.move (ni i) e510 ?_)
     refine WL.nil ?_
     exact oneQ.mk ⟨rfl, st508⟩
    ·intro vals ρ w513 X hd h0 st512
     have e514 : ρ 149 = (.bool (decide (0 < (f nm9)))) := ((hd 31 rfl).2 149 rfl).trans (hd 31 rfl).1
     have e515 : ρ 157 = lv17 := ((hd 39 rfl).2 157 rfl).trans (hd 39 rfl).1
     have e516 : ρ 158 = (ni i) := ((hd 40 rfl).2 158 rfl).trans (hd 40 rfl).1
     refine W2 (dj := 149) (e514.trans (bT h321)) (OpT.idxE tu28 ts41 e515 .i64 (i) e516 hEq3 ?_)
     refine WL.nil ?_
     exact oneQ.mk ⟨rfl, st512⟩
    ·intro vals ρ w523 X hd h0 st522
     have e524 : ρ 149 = (.bool (decide (0 < (f nm9)))) := ((hd 31 rfl).2 149 rfl).trans (hd 31 rfl).1
     have e525 : ρ 159 = (.pointer (some adq3)) := ((hd 41 rfl).2 159 rfl).trans (hd 41 rfl).1
     refine W2 (dj := 149) (e524.trans (bT h321)) (OpT.field 1 adq3 (adq3.add 1) tf41_1 e525 rfl ?_)
     refine WL.nil ?_
     exact oneQ.mk ⟨rfl, st522⟩
    ·intro vals ρ w527 X hd h0 st526
     have e528 : ρ 149 = (.bool (decide (0 < (f nm9)))) := ((hd 31 rfl).2 149 rfl).trans (hd 31 rfl).1
     have e529 : ρ 160 = (.pointer (some (adq3.add 1))) := ((hd 42 rfl).2 160 rfl).trans (hd 42 rfl).1
     refine W2 (dj := 149) (e528.trans (bT h321)) (OpT.loadS (adq3.add 1) (.int .i32 (f nm9)) ta21 e529 (hrq3.cell st526 (j := 1) rfl) ?_)
     refine WL.nil ?_
     exact oneQ.mk ⟨rfl, st526⟩
    ·intro vals ρ w531 X hd h0 st530
     have e532 : ρ 149 = (.bool (decide (0 < (f nm9)))) := ((hd 31 rfl).2 149 rfl).trans (hd 31 rfl).1
     have e533 : ρ 150 = v12 := ((hd 32 rfl).2 150 rfl).trans (hd 32 rfl).1
     have e534 : ρ 151 = lv17 := ((hd 33 rfl).2 151 rfl).trans (hd 33 rfl).1
     have e535 : ρ 156 = (.string nm9) := ((hd 38 rfl).2 156 rfl).trans (hd 38 rfl).1
     have e536 : ρ 161 = (.int .i32 (f nm9)) := ((hd 43 rfl).2 161 rfl).trans (hd 43 rfl).1
     refine W2 (dj := 149) (e532.trans (bT h321)) (OpT.callS cal12 [] [] [v12, lv17, (.string nm9), (.int .i32 (f nm9))] rfl (ca4 e533 e534 e535 e536) (reason_spec st530 hL31 hs28 hlev (fun e he => namesG_mem.2 (edge_names he).2) hnl hfb nm9 (List.mem_of_getElem? hnm9) h321) ?_)
     rintro v537 w538 ⟨rfl, st539⟩
     refine WL.nil ?_
     exact oneQ.mk ⟨rfl, st539⟩
    ·intro vals ρ w541 X hd h0 st540
     have e542 : ρ 149 = (.bool (decide (0 < (f nm9)))) := ((hd 31 rfl).2 149 rfl).trans (hd 31 rfl).1
     have e543 : ρ 162 = (.bool true) := ((hd 44 rfl).2 162 rfl).trans (hd 44 rfl).1
     refine W2 (dj := 149) (e542.trans (bT h321)) (OpT.not true e543 ?_)
     refine WL.nil ?_
     exact oneQ.mk ⟨rfl, st540⟩
    ·intro vals ρ w545 X hd h0 st544
     have e546 : ρ 142 = (.bool (decide ((f nm9) < 0))) := ((hd 24 rfl).2 142 rfl).trans (hd 24 rfl).1
     have e547 : ρ 149 = (.bool (decide (0 < (f nm9)))) := ((hd 31 rfl).2 149 rfl).trans (hd 31 rfl).1
     have e548 : ρ 163 = (.bool false) := ((hd 45 rfl).2 163 rfl).trans (hd 45 rfl).1
     refine W2 (dj := 142) (e546.trans (bF (by omega))) (OpT.pickT (.bool false) (e547.trans (bT h321)) e548 ?_)
     refine WL.nil ?_
     exact oneQ.mk ⟨rfl, st544⟩
    ·intro vals ρ w550 X hd h0 st549
     have e551 : ρ 142 = (.bool (decide ((f nm9) < 0))) := ((hd 24 rfl).2 142 rfl).trans (hd 24 rfl).1
     have e552 : ρ 164 = (.bool false) := ((hd 46 rfl).2 164 rfl).trans (hd 46 rfl).1
     refine W1 (OpT.pickF (.bool false) (e551.trans (bF (by omega))) e552 ?_)
     refine WL.nil ?_
     exact oneQ.mk ⟨rfl, st549⟩
    intro vals ρ555 w554 hv h0 st553
    replace st553 : St Z26 w19 w554 (L) := st553
    have e556 : ρ555 4 = v12 := (h0 4 rfl).trans hs316
    have e557 : ρ555 5 = lv17 := (h0 5 rfl).trans hs317
    have e558 : ρ555 11 = (ni i) := (h0 11 rfl).trans hs315
    have e559 : ρ555 165 = (.bool false) := ((hv 47 rfl).2 165 rfl).trans (hv 47 rfl).1
    clear hv h0
    refine Wnt ?_
    refine WC.condF e559 ?_
    refine WC.skip ?_
    refine blkQ_n ?_
    refine thenQ_n ?_
    refine WC.region ?_
    refine W1 (OpT.move (ni i) e558 ?_)
    refine W1 (OpT.iadd .i64 (((i : Nat) : Int)) (1) (((i + 1 : Nat) : Int)) rfl rfl (wadd (a := i) (b := 1) (by omega)) ?_)
    refine W1 (OpT.assign (ni (i + 1)) rfl ?_)
    refine WL.nil ?_
    exact loopQ_n _ (by omega) ⟨i + 1, rfl, by omega, rfl, e556, e557, st553⟩
   refine WC.draw 48 (fun jj vv => match jj with | 0 => vv = (ni i) | 1 => vv = (.bool (decide (0 < ((i : Nat) : Int)))) | 2 => vv = (.bool (decide (0 < ((i : Nat) : Int)))) | 3 => vv = lv17 | 4 => vv = (ni i) | 5 => vv = (ni (i - 1)) | 6 => vv = (.pointer (some adq2)) | 7 => vv = (.pointer (some adq2)) | 8 => vv = (.string nm8) | 9 => vv = lv17 | 10 => vv = (ni i) | 11 => vv = (.pointer (some adq3)) | 12 => vv = (.pointer (some adq3)) | 13 => vv = (.string nm9) | 14 => vv = (.bool (!Op.bytesLess (nm8).toList (nm9).toList)) | 15 => vv = (.bool (!Op.bytesLess (nm8).toList (nm9).toList)) | 16 => vv = (.bool (!Op.bytesLess (nm8).toList (nm9).toList)) | 17 => vv = lv17 | 18 => vv = (ni i) | 19 => vv = (.pointer (some adq3)) | 20 => vv = (.pointer (some (adq3.add 1))) | 21 => vv = (.int .i32 (f nm9)) | 22 => vv = (.bool (decide ((f nm9) < 0))) | 23 => vv = (.bool (decide ((f nm9) < 0))) | 24 => vv = (.bool (decide ((f nm9) < 0))) | 25 => vv = lv17 | 26 => vv = (ni i) | 27 => vv = (.pointer (some adq3)) | 28 => vv = (.pointer (some (adq3.add 1))) | 29 => vv = (.int .i32 (f nm9)) | 30 => vv = (.bool (decide (0 < (f nm9)))) | 31 => vv = (.bool (decide (0 < (f nm9)))) | 32 => vv = undef | 33 => vv = undef | 34 => vv = undef | 35 => vv = undef | 36 => vv = undef | 37 => vv = undef | 38 => vv = undef | 39 => vv = undef | 40 => vv = undef | 41 => vv = undef | 42 => vv = undef | 43 => vv = undef | 44 => vv = undef | 45 => vv = undef | 46 => vv = (.bool false) | 47 => vv = (.bool false) | _ => True) (fun _ _ => []) st313 fmix (by kernel_rfl) ((obS (obS (obS (obS (obS (obS (obS (obS (obS (obS (obS (obS (obS (obS (obS (obS (obS (obS (obS (obS (obS (obS (obS (obS (obS (obS (obS (obS (obS (obS (obS (obS (obS (obS (obS (obS (obS (obS (obS (obS (obS (obS (obS (obS (obS (obS (obS (obS ob0 ?_) ?_) ?_) ?_) ?_) ?_) ?_) ?_) ?_) ?_) ?_) ?_) ?_) ?_) ?_) ?_) ?_) ?_) ?_) ?_) ?_) ?_) ?_) ?_) ?_) ?_) ?_) ?_) ?_) ?_) ?_) ?_) ?_) ?_) ?_) ?_) ?_) ?_) ?_) ?_) ?_) ?_) ?_) ?_) ?_) ?_) ?_) ?_)) ?_
   ·intro vals ρ w561 X hd h0 st560
    have e562 : ρ 11 = (ni i) := (h0 11 rfl).trans hs315
    refine W1 (OpT.move (ni i) e562 ?_)
    refine WL.nil ?_
    exact oneQ.mk ⟨rfl, st560⟩
   ·intro vals ρ w564 X hd h0 st563
    have e565 : ρ 118 = (ni i) := ((hd 0 rfl).2 118 rfl).trans (hd 0 rfl).1
    refine W1 (OpT.igt .i64 (((i : Nat) : Int)) (0) e565 rfl ?_)
    refine WL.nil ?_
    exact oneQ.mk ⟨rfl, st563⟩
   ·intro vals ρ w567 X hd h0 st566
    have e568 : ρ 119 = (.bool (decide (0 < ((i : Nat) : Int)))) := ((hd 1 rfl).2 119 rfl).trans (hd 1 rfl).1
    refine W1 (OpT.move (.bool (decide (0 < ((i : Nat) : Int)))) e568 ?_)
    refine WL.nil ?_
    exact oneQ.mk ⟨rfl, st566⟩
   ·intro vals ρ w570 X hd h0 st569
    have e571 : ρ 5 = lv17 := (h0 5 rfl).trans hs317
    have e572 : ρ 120 = (.bool (decide (0 < ((i : Nat) : Int)))) := ((hd 2 rfl).2 120 rfl).trans (hd 2 rfl).1
    refine W2 (dj := 120) (e572.trans (bT h320)) (OpT.move lv17 e571 ?_)
    refine WL.nil ?_
    exact oneQ.mk ⟨rfl, st569⟩
   ·intro vals ρ w574 X hd h0 st573
    have e575 : ρ 11 = (ni i) := (h0 11 rfl).trans hs315
    have e576 : ρ 120 = (.bool (decide (0 < ((i : Nat) : Int)))) := ((hd 2 rfl).2 120 rfl).trans (hd 2 rfl).1
    refine W2 (dj := 120) (e576.trans (bT h320)) (OpT.move (ni i) e575 ?_)
    refine WL.nil ?_
    exact oneQ.mk ⟨rfl, st573⟩
   ·intro vals ρ w578 X hd h0 st577
    have e579 : ρ 120 = (.bool (decide (0 < ((i : Nat) : Int)))) := ((hd 2 rfl).2 120 rfl).trans (hd 2 rfl).1
    have e580 : ρ 122 = (ni i) := ((hd 4 rfl).2 122 rfl).trans (hd 4 rfl).1
    refine W2 (dj := 120) (e579.trans (bT h320)) (OpT.isub .i64 (((i : Nat) : Int)) (1) (((i - 1 : Nat) : Int)) e580 rfl (wsub (a := i) (b := 1) (by omega) (by omega)) ?_)
    refine WL.nil ?_
    exact oneQ.mk ⟨rfl, st577⟩
   ·intro vals ρ w582 X hd h0 st581
    have e583 : ρ 120 = (.bool (decide (0 < ((i : Nat) : Int)))) := ((hd 2 rfl).2 120 rfl).trans (hd 2 rfl).1
    have e584 : ρ 121 = lv17 := ((hd 3 rfl).2 121 rfl).trans (hd 3 rfl).1
    have e585 : ρ 123 = (ni (i - 1)) := ((hd 5 rfl).2 123 rfl).trans (hd 5 rfl).1
    refine W2 (dj := 120) (e583.trans (bT h320)) (OpT.idxE tu28 ts41 e584 .i64 (i - 1) e585 hEq2 ?_)
    refine WL.nil ?_
    exact oneQ.mk ⟨rfl, st581⟩
   ·intro vals ρ w592 X hd h0 st591
    have e593 : ρ 120 = (.bool (decide (0 < ((i : Nat) : Int)))) := ((hd 2 rfl).2 120 rfl).trans (hd 2 rfl).1
    have e594 : ρ 124 = (.pointer (some adq2)) := ((hd 6 rfl).2 124 rfl).trans (hd 6 rfl).1
    refine W2 (dj := 120) (e593.trans (bT h320)) (OpT.field 0 adq2 adq2 tf41_0 e594 rfl ?_)
    refine WL.nil ?_
    exact oneQ.mk ⟨rfl, st591⟩
   ·intro vals ρ w596 X hd h0 st595
    have e597 : ρ 120 = (.bool (decide (0 < ((i : Nat) : Int)))) := ((hd 2 rfl).2 120 rfl).trans (hd 2 rfl).1
    have e598 : ρ 125 = (.pointer (some adq2)) := ((hd 7 rfl).2 125 rfl).trans (hd 7 rfl).1
    refine W2 (dj := 120) (e597.trans (bT h320)) (OpT.loadS adq2 (.string nm8) ta9 e598 (hrq2.cell st595 (j := 0) rfl) ?_)
    refine WL.nil ?_
    exact oneQ.mk ⟨rfl, st595⟩
   ·intro vals ρ w600 X hd h0 st599
    have e601 : ρ 5 = lv17 := (h0 5 rfl).trans hs317
    have e602 : ρ 120 = (.bool (decide (0 < ((i : Nat) : Int)))) := ((hd 2 rfl).2 120 rfl).trans (hd 2 rfl).1
    refine W2 (dj := 120) (e602.trans (bT h320)) (OpT.move lv17 e601 ?_)
    refine WL.nil ?_
    exact oneQ.mk ⟨rfl, st599⟩
   ·intro vals ρ w604 X hd h0 st603
    have e605 : ρ 11 = (ni i) := (h0 11 rfl).trans hs315
    have e606 : ρ 120 = (.bool (decide (0 < ((i : Nat) : Int)))) := ((hd 2 rfl).2 120 rfl).trans (hd 2 rfl).1
    refine W2 (dj := 120) (e606.trans (bT h320)) (OpT.move (ni i) e605 ?_)
    refine WL.nil ?_
    exact oneQ.mk ⟨rfl, st603⟩
   ·intro vals ρ w608 X hd h0 st607
    have e609 : ρ 120 = (.bool (decide (0 < ((i : Nat) : Int)))) := ((hd 2 rfl).2 120 rfl).trans (hd 2 rfl).1
    have e610 : ρ 127 = lv17 := ((hd 9 rfl).2 127 rfl).trans (hd 9 rfl).1
    have e611 : ρ 128 = (ni i) := ((hd 10 rfl).2 128 rfl).trans (hd 10 rfl).1
    refine W2 (dj := 120) (e609.trans (bT h320)) (OpT.idxE tu28 ts41 e610 .i64 (i) e611 hEq3 ?_)
    refine WL.nil ?_
    exact oneQ.mk ⟨rfl, st607⟩
   ·intro vals ρ w618 X hd h0 st617
    have e619 : ρ 120 = (.bool (decide (0 < ((i : Nat) : Int)))) := ((hd 2 rfl).2 120 rfl).trans (hd 2 rfl).1
    have e620 : ρ 129 = (.pointer (some adq3)) := ((hd 11 rfl).2 129 rfl).trans (hd 11 rfl).1
    refine W2 (dj := 120) (e619.trans (bT h320)) (OpT.field 0 adq3 adq3 tf41_0 e620 rfl ?_)
    refine WL.nil ?_
    exact oneQ.mk ⟨rfl, st617⟩
   ·intro vals ρ w622 X hd h0 st621
    have e623 : ρ 120 = (.bool (decide (0 < ((i : Nat) : Int)))) := ((hd 2 rfl).2 120 rfl).trans (hd 2 rfl).1
    have e624 : ρ 130 = (.pointer (some adq3)) := ((hd 12 rfl).2 130 rfl).trans (hd 12 rfl).1
    refine W2 (dj := 120) (e623.trans (bT h320)) (OpT.loadS adq3 (.string nm9) ta9 e624 (hrq3.cell st621 (j := 0) rfl) ?_)
    refine WL.nil ?_
    exact oneQ.mk ⟨rfl, st621⟩
   ·intro vals ρ w626 X hd h0 st625
    have e627 : ρ 120 = (.bool (decide (0 < ((i : Nat) : Int)))) := ((hd 2 rfl).2 120 rfl).trans (hd 2 rfl).1
    have e628 : ρ 126 = (.string nm8) := ((hd 8 rfl).2 126 rfl).trans (hd 8 rfl).1
    have e629 : ρ 131 = (.string nm9) := ((hd 13 rfl).2 131 rfl).trans (hd 13 rfl).1
    refine W2 (dj := 120) (e627.trans (bT h320)) (OpT.sge (nm8) (nm9) e628 e629 ?_)
    refine WL.nil ?_
    exact oneQ.mk ⟨rfl, st625⟩
   ·intro vals ρ w631 X hd h0 st630
    have e632 : ρ 120 = (.bool (decide (0 < ((i : Nat) : Int)))) := ((hd 2 rfl).2 120 rfl).trans (hd 2 rfl).1
    have e633 : ρ 132 = (.bool (!Op.bytesLess (nm8).toList (nm9).toList)) := ((hd 14 rfl).2 132 rfl).trans (hd 14 rfl).1
    refine W1 (OpT.pickT (.bool (!Op.bytesLess (nm8).toList (nm9).toList)) (e632.trans (bT h320)) e633 ?_)
    refine WL.nil ?_
    exact oneQ.mk ⟨rfl, st630⟩
   ·intro vals ρ w635 X hd h0 st634
    have e636 : ρ 133 = (.bool (!Op.bytesLess (nm8).toList (nm9).toList)) := ((hd 15 rfl).2 133 rfl).trans (hd 15 rfl).1
    refine W1 (OpT.move (.bool (!Op.bytesLess (nm8).toList (nm9).toList)) e636 ?_)
    refine WL.nil ?_
    exact oneQ.mk ⟨rfl, st634⟩
   ·intro vals ρ w638 X hd h0 st637
    have e639 : ρ 5 = lv17 := (h0 5 rfl).trans hs317
    have e640 : ρ 134 = (.bool (!Op.bytesLess (nm8).toList (nm9).toList)) := ((hd 16 rfl).2 134 rfl).trans (hd 16 rfl).1
    refine W2 (dj := 134) (e640.trans (congrArg Value.bool (by rw [hrise]; rfl))) (OpT.move lv17 e639 ?_)
    refine WL.nil ?_
    exact oneQ.mk ⟨rfl, st637⟩
   ·intro vals ρ w642 X hd h0 st641
    have e643 : ρ 11 = (ni i) := (h0 11 rfl).trans hs315
    have e644 : ρ 134 = (.bool (!Op.bytesLess (nm8).toList (nm9).toList)) := ((hd 16 rfl).2 134 rfl).trans (hd 16 rfl).1
    refine W2 (dj := 134) (e644.trans (congrArg Value.bool (by rw [hrise]; rfl))) (OpT.move (ni i) e643 ?_)
    refine WL.nil ?_
    exact oneQ.mk ⟨rfl, st641⟩
   ·intro vals ρ w646 X hd h0 st645
    have e647 : ρ 134 = (.bool (!Op.bytesLess (nm8).toList (nm9).toList)) := ((hd 16 rfl).2 134 rfl).trans (hd 16 rfl).1
    have e648 : ρ 135 = lv17 := ((hd 17 rfl).2 135 rfl).trans (hd 17 rfl).1
    have e649 : ρ 136 = (ni i) := ((hd 18 rfl).2 136 rfl).trans (hd 18 rfl).1
    refine W2 (dj := 134) (e647.trans (congrArg Value.bool (by rw [hrise]; rfl))) (OpT.idxE tu28 ts41 e648 .i64 (i) e649 hEq3 ?_)
    refine WL.nil ?_
    exact oneQ.mk ⟨rfl, st645⟩
   ·intro vals ρ w656 X hd h0 st655
    have e657 : ρ 134 = (.bool (!Op.bytesLess (nm8).toList (nm9).toList)) := ((hd 16 rfl).2 134 rfl).trans (hd 16 rfl).1
    have e658 : ρ 137 = (.pointer (some adq3)) := ((hd 19 rfl).2 137 rfl).trans (hd 19 rfl).1
    refine W2 (dj := 134) (e657.trans (congrArg Value.bool (by rw [hrise]; rfl))) (OpT.field 1 adq3 (adq3.add 1) tf41_1 e658 rfl ?_)
    refine WL.nil ?_
    exact oneQ.mk ⟨rfl, st655⟩
   ·intro vals ρ w660 X hd h0 st659
    have e661 : ρ 134 = (.bool (!Op.bytesLess (nm8).toList (nm9).toList)) := ((hd 16 rfl).2 134 rfl).trans (hd 16 rfl).1
    have e662 : ρ 138 = (.pointer (some (adq3.add 1))) := ((hd 20 rfl).2 138 rfl).trans (hd 20 rfl).1
    refine W2 (dj := 134) (e661.trans (congrArg Value.bool (by rw [hrise]; rfl))) (OpT.loadS (adq3.add 1) (.int .i32 (f nm9)) ta21 e662 (hrq3.cell st659 (j := 1) rfl) ?_)
    refine WL.nil ?_
    exact oneQ.mk ⟨rfl, st659⟩
   ·intro vals ρ w664 X hd h0 st663
    have e665 : ρ 134 = (.bool (!Op.bytesLess (nm8).toList (nm9).toList)) := ((hd 16 rfl).2 134 rfl).trans (hd 16 rfl).1
    have e666 : ρ 139 = (.int .i32 (f nm9)) := ((hd 21 rfl).2 139 rfl).trans (hd 21 rfl).1
    refine W2 (dj := 134) (e665.trans (congrArg Value.bool (by rw [hrise]; rfl))) (OpT.ilt .i32 (f nm9) (0) e666 rfl ?_)
    refine WL.nil ?_
    exact oneQ.mk ⟨rfl, st663⟩
   ·intro vals ρ w668 X hd h0 st667
    have e669 : ρ 134 = (.bool (!Op.bytesLess (nm8).toList (nm9).toList)) := ((hd 16 rfl).2 134 rfl).trans (hd 16 rfl).1
    have e670 : ρ 140 = (.bool (decide ((f nm9) < 0))) := ((hd 22 rfl).2 140 rfl).trans (hd 22 rfl).1
    refine W1 (OpT.pickF (.bool (decide ((f nm9) < 0))) (e669.trans (congrArg Value.bool (by rw [hrise]; rfl))) e670 ?_)
    refine WL.nil ?_
    exact oneQ.mk ⟨rfl, st667⟩
   ·intro vals ρ w672 X hd h0 st671
    have e673 : ρ 141 = (.bool (decide ((f nm9) < 0))) := ((hd 23 rfl).2 141 rfl).trans (hd 23 rfl).1
    refine W1 (OpT.move (.bool (decide ((f nm9) < 0))) e673 ?_)
    refine WL.nil ?_
    exact oneQ.mk ⟨rfl, st671⟩
   ·intro vals ρ w675 X hd h0 st674
    have e676 : ρ 5 = lv17 := (h0 5 rfl).trans hs317
    have e677 : ρ 142 = (.bool (decide ((f nm9) < 0))) := ((hd 24 rfl).2 142 rfl).trans (hd 24 rfl).1
    refine W2 (dj := 142) (e677.trans (bF (by omega))) (OpT.move lv17 e676 ?_)
    refine WL.nil ?_
    exact oneQ.mk ⟨rfl, st674⟩
   ·intro vals ρ w679 X hd h0 st678
    have e680 : ρ 11 = (ni i) := (h0 11 rfl).trans hs315
    have e681 : ρ 142 = (.bool (decide ((f nm9) < 0))) := ((hd 24 rfl).2 142 rfl).trans (hd 24 rfl).1
    refine W2 (dj := 142) (e681.trans (bF (by omega))) (OpT.move (ni i) e680 ?_)
    refine WL.nil ?_
    exact oneQ.mk ⟨rfl, st678⟩
   ·intro vals ρ w683 X hd h0 st682
    have e684 : ρ 142 = (.bool (decide ((f nm9) < 0))) := ((hd 24 rfl).2 142 rfl).trans (hd 24 rfl).1
    have e685 : ρ 143 = lv17 := ((hd 25 rfl).2 143 rfl).trans (hd 25 rfl).1
    have e686 : ρ 144 = (ni i) := ((hd 26 rfl).2 144 rfl).trans (hd 26 rfl).1
    refine W2 (dj := 142) (e684.trans (bF (by omega))) (OpT.idxE tu28 ts41 e685 .i64 (i) e686 hEq3 ?_)
    refine WL.nil ?_
    exact oneQ.mk ⟨rfl, st682⟩
   ·intro vals ρ w693 X hd h0 st692
    have e694 : ρ 142 = (.bool (decide ((f nm9) < 0))) := ((hd 24 rfl).2 142 rfl).trans (hd 24 rfl).1
    have e695 : ρ 145 = (.pointer (some adq3)) := ((hd 27 rfl).2 145 rfl).trans (hd 27 rfl).1
    refine W2 (dj := 142) (e694.trans (bF (by omega))) (OpT.field 1 adq3 (adq3.add 1) tf41_1 e695 rfl ?_)
    refine WL.nil ?_
    exact oneQ.mk ⟨rfl, st692⟩
   ·intro vals ρ w697 X hd h0 st696
    have e698 : ρ 142 = (.bool (decide ((f nm9) < 0))) := ((hd 24 rfl).2 142 rfl).trans (hd 24 rfl).1
    have e699 : ρ 146 = (.pointer (some (adq3.add 1))) := ((hd 28 rfl).2 146 rfl).trans (hd 28 rfl).1
    refine W2 (dj := 142) (e698.trans (bF (by omega))) (OpT.loadS (adq3.add 1) (.int .i32 (f nm9)) ta21 e699 (hrq3.cell st696 (j := 1) rfl) ?_)
    refine WL.nil ?_
    exact oneQ.mk ⟨rfl, st696⟩
   ·intro vals ρ w701 X hd h0 st700
    have e702 : ρ 142 = (.bool (decide ((f nm9) < 0))) := ((hd 24 rfl).2 142 rfl).trans (hd 24 rfl).1
    have e703 : ρ 147 = (.int .i32 (f nm9)) := ((hd 29 rfl).2 147 rfl).trans (hd 29 rfl).1
    refine W2 (dj := 142) (e702.trans (bF (by omega))) (OpT.igt .i32 (f nm9) (0) e703 rfl ?_)
    refine WL.nil ?_
    exact oneQ.mk ⟨rfl, st700⟩
   ·intro vals ρ w705 X hd h0 st704
    have e706 : ρ 142 = (.bool (decide ((f nm9) < 0))) := ((hd 24 rfl).2 142 rfl).trans (hd 24 rfl).1
    have e707 : ρ 148 = (.bool (decide (0 < (f nm9)))) := ((hd 30 rfl).2 148 rfl).trans (hd 30 rfl).1
    refine W2 (dj := 142) (e706.trans (bF (by omega))) (OpT.move (.bool (decide (0 < (f nm9)))) e707 ?_)
    refine WL.nil ?_
    exact oneQ.mk ⟨rfl, st704⟩
   ·intro vals ρ w709 X hd h0 st708
    have e710 : ρ 4 = v12 := (h0 4 rfl).trans hs316
    have e711 : ρ 149 = (.bool (decide (0 < (f nm9)))) := ((hd 31 rfl).2 149 rfl).trans (hd 31 rfl).1
    refine WL.pass (dj := 149) (c := false) rfl rfl rfl (e711.trans (bF h321)) rfl ?_
    refine WL.nil ?_
    exact oneQ.mk ⟨rfl, st708⟩
   ·intro vals ρ w713 X hd h0 st712
    have e714 : ρ 5 = lv17 := (h0 5 rfl).trans hs317
    have e715 : ρ 149 = (.bool (decide (0 < (f nm9)))) := ((hd 31 rfl).2 149 rfl).trans (hd 31 rfl).1
    refine WL.pass (dj := 149) (c := false) rfl rfl rfl (e715.trans (bF h321)) rfl ?_
    refine WL.nil ?_
    exact oneQ.mk ⟨rfl, st712⟩
   ·intro vals ρ w717 X hd h0 st716
    have e718 : ρ 5 = lv17 := (h0 5 rfl).trans hs317
    have e719 : ρ 149 = (.bool (decide (0 < (f nm9)))) := ((hd 31 rfl).2 149 rfl).trans (hd 31 rfl).1
    refine WL.pass (dj := 149) (c := false) rfl rfl rfl (e719.trans (bF h321)) rfl ?_
    refine WL.nil ?_
    exact oneQ.mk ⟨rfl, st716⟩
   ·intro vals ρ w721 X hd h0 st720
    have e722 : ρ 11 = (ni i) := (h0 11 rfl).trans hs315
    have e723 : ρ 149 = (.bool (decide (0 < (f nm9)))) := ((hd 31 rfl).2 149 rfl).trans (hd 31 rfl).1
    refine WL.pass (dj := 149) (c := false) rfl rfl rfl (e723.trans (bF h321)) rfl ?_
    refine WL.nil ?_
    exact oneQ.mk ⟨rfl, st720⟩
   ·intro vals ρ w725 X hd h0 st724
    have e726 : ρ 149 = (.bool (decide (0 < (f nm9)))) := ((hd 31 rfl).2 149 rfl).trans (hd 31 rfl).1
    have e727 : ρ 152 = undef := ((hd 34 rfl).2 152 rfl).trans (hd 34 rfl).1
    have e728 : ρ 153 = undef := ((hd 35 rfl).2 153 rfl).trans (hd 35 rfl).1
    refine WL.pass (dj := 149) (c := false) rfl rfl rfl (e726.trans (bF h321)) rfl ?_
    refine WL.nil ?_
    exact oneQ.mk ⟨rfl, st724⟩
   ·intro vals ρ w730 X hd h0 st729
    have e731 : ρ 149 = (.bool (decide (0 < (f nm9)))) := ((hd 31 rfl).2 149 rfl).trans (hd 31 rfl).1
    have e732 : ρ 154 = undef := ((hd 36 rfl).2 154 rfl).trans (hd 36 rfl).1
    refine WL.pass (dj := 149) (c := false) rfl rfl rfl (e731.trans (bF h321)) rfl ?_
    refine WL.nil ?_
    exact oneQ.mk ⟨rfl, st729⟩
   ·intro vals ρ w734 X hd h0 st733
    have e735 : ρ 149 = (.bool (decide (0 < (f nm9)))) := ((hd 31 rfl).2 149 rfl).trans (hd 31 rfl).1
    have e736 : ρ 155 = undef := ((hd 37 rfl).2 155 rfl).trans (hd 37 rfl).1
    refine WL.pass (dj := 149) (c := false) rfl rfl rfl (e735.trans (bF h321)) rfl ?_
    refine WL.nil ?_
    exact oneQ.mk ⟨rfl, st733⟩
   ·intro vals ρ w738 X hd h0 st737
    have e739 : ρ 5 = lv17 := (h0 5 rfl).trans hs317
    have e740 : ρ 149 = (.bool (decide (0 < (f nm9)))) := ((hd 31 rfl).2 149 rfl).trans (hd 31 rfl).1
    refine WL.pass (dj := 149) (c := false) rfl rfl rfl (e740.trans (bF h321)) rfl ?_
    refine WL.nil ?_
    exact oneQ.mk ⟨rfl, st737⟩
   ·intro vals ρ w742 X hd h0 st741
    have e743 : ρ 11 = (ni i) := (h0 11 rfl).trans hs315
    have e744 : ρ 149 = (.bool (decide (0 < (f nm9)))) := ((hd 31 rfl).2 149 rfl).trans (hd 31 rfl).1
    refine WL.pass (dj := 149) (c := false) rfl rfl rfl (e744.trans (bF h321)) rfl ?_
    refine WL.nil ?_
    exact oneQ.mk ⟨rfl, st741⟩
   ·intro vals ρ w746 X hd h0 st745
    have e747 : ρ 149 = (.bool (decide (0 < (f nm9)))) := ((hd 31 rfl).2 149 rfl).trans (hd 31 rfl).1
    have e748 : ρ 157 = undef := ((hd 39 rfl).2 157 rfl).trans (hd 39 rfl).1
    have e749 : ρ 158 = undef := ((hd 40 rfl).2 158 rfl).trans (hd 40 rfl).1
    refine WL.pass (dj := 149) (c := false) rfl rfl rfl (e747.trans (bF h321)) rfl ?_
    refine WL.nil ?_
    exact oneQ.mk ⟨rfl, st745⟩
   ·intro vals ρ w751 X hd h0 st750
    have e752 : ρ 149 = (.bool (decide (0 < (f nm9)))) := ((hd 31 rfl).2 149 rfl).trans (hd 31 rfl).1
    have e753 : ρ 159 = undef := ((hd 41 rfl).2 159 rfl).trans (hd 41 rfl).1
    refine WL.pass (dj := 149) (c := false) rfl rfl rfl (e752.trans (bF h321)) rfl ?_
    refine WL.nil ?_
    exact oneQ.mk ⟨rfl, st750⟩
   ·intro vals ρ w755 X hd h0 st754
    have e756 : ρ 149 = (.bool (decide (0 < (f nm9)))) := ((hd 31 rfl).2 149 rfl).trans (hd 31 rfl).1
    have e757 : ρ 160 = undef := ((hd 42 rfl).2 160 rfl).trans (hd 42 rfl).1
    refine WL.pass (dj := 149) (c := false) rfl rfl rfl (e756.trans (bF h321)) rfl ?_
    refine WL.nil ?_
    exact oneQ.mk ⟨rfl, st754⟩
   ·intro vals ρ w759 X hd h0 st758
    have e760 : ρ 149 = (.bool (decide (0 < (f nm9)))) := ((hd 31 rfl).2 149 rfl).trans (hd 31 rfl).1
    have e761 : ρ 150 = undef := ((hd 32 rfl).2 150 rfl).trans (hd 32 rfl).1
    have e762 : ρ 151 = undef := ((hd 33 rfl).2 151 rfl).trans (hd 33 rfl).1
    have e763 : ρ 156 = undef := ((hd 38 rfl).2 156 rfl).trans (hd 38 rfl).1
    have e764 : ρ 161 = undef := ((hd 43 rfl).2 161 rfl).trans (hd 43 rfl).1
    refine WL.pass (dj := 149) (c := false) rfl rfl rfl (e760.trans (bF h321)) rfl ?_
    refine WL.nil ?_
    exact oneQ.mk ⟨rfl, st758⟩
   ·intro vals ρ w766 X hd h0 st765
    have e767 : ρ 149 = (.bool (decide (0 < (f nm9)))) := ((hd 31 rfl).2 149 rfl).trans (hd 31 rfl).1
    have e768 : ρ 162 = undef := ((hd 44 rfl).2 162 rfl).trans (hd 44 rfl).1
    refine WL.pass (dj := 149) (c := false) rfl rfl rfl (e767.trans (bF h321)) rfl ?_
    refine WL.nil ?_
    exact oneQ.mk ⟨rfl, st765⟩
   ·intro vals ρ w770 X hd h0 st769
    have e771 : ρ 142 = (.bool (decide ((f nm9) < 0))) := ((hd 24 rfl).2 142 rfl).trans (hd 24 rfl).1
    have e772 : ρ 149 = (.bool (decide (0 < (f nm9)))) := ((hd 31 rfl).2 149 rfl).trans (hd 31 rfl).1
    have e773 : ρ 163 = undef := ((hd 45 rfl).2 163 rfl).trans (hd 45 rfl).1
    refine W2 (dj := 142) (e771.trans (bF (by omega))) (OpT.pickF (.bool false) (e772.trans (bF h321)) rfl ?_)
    refine WL.nil ?_
    exact oneQ.mk ⟨rfl, st769⟩
   ·intro vals ρ w775 X hd h0 st774
    have e776 : ρ 142 = (.bool (decide ((f nm9) < 0))) := ((hd 24 rfl).2 142 rfl).trans (hd 24 rfl).1
    have e777 : ρ 164 = (.bool false) := ((hd 46 rfl).2 164 rfl).trans (hd 46 rfl).1
    refine W1 (OpT.pickF (.bool false) (e776.trans (bF (by omega))) e777 ?_)
    refine WL.nil ?_
    exact oneQ.mk ⟨rfl, st774⟩
   intro vals ρ780 w779 hv h0 st778
   replace st778 : St Z26 w19 w779 (L) := st778
   have e781 : ρ780 4 = v12 := (h0 4 rfl).trans hs316
   have e782 : ρ780 5 = lv17 := (h0 5 rfl).trans hs317
   have e783 : ρ780 11 = (ni i) := (h0 11 rfl).trans hs315
   have e784 : ρ780 165 = (.bool false) := ((hv 47 rfl).2 165 rfl).trans (hv 47 rfl).1
   clear hv h0
   refine Wnt ?_
   refine WC.condF e784 ?_
   refine WC.skip ?_
   refine blkQ_n ?_
   refine thenQ_n ?_
   refine WC.region ?_
   refine W1 (OpT.move (ni i) e783 ?_)
   refine W1 (OpT.iadd .i64 (((i : Nat) : Int)) (1) (((i + 1 : Nat) : Int)) rfl rfl (wadd (a := i) (b := 1) (by omega)) ?_)
   refine W1 (OpT.assign (ni (i + 1)) rfl ?_)
   refine WL.nil ?_
   exact loopQ_n _ (by omega) ⟨i + 1, rfl, by omega, rfl, e781, e782, st778⟩
  obtain ⟨adq4, csq4, hEq4, hrq4, hRq4⟩ := Rl.sl_el hs28 (map_at hnm9)
  have hRq4c := hRq4
  obtain rfl := hRq4
  by_cases h785 : 0 < (f nm9)
  ·refine WC.draw 48 (fun jj vv => match jj with | 0 => vv = (ni i) | 1 => vv = (.bool (decide (0 < ((i : Nat) : Int)))) | 2 => vv = (.bool (decide (0 < ((i : Nat) : Int)))) | 3 => vv = undef | 4 => vv = undef | 5 => vv = undef | 6 => vv = undef | 7 => vv = undef | 8 => vv = undef | 9 => vv = undef | 10 => vv = undef | 11 => vv = undef | 12 => vv = undef | 13 => vv = undef | 14 => vv = undef | 15 => vv = (.bool false) | 16 => vv = (.bool false) | 17 => vv = lv17 | 18 => vv = (ni i) | 19 => vv = (.pointer (some adq4)) | 20 => vv = (.pointer (some (adq4.add 1))) | 21 => vv = (.int .i32 (f nm9)) | 22 => vv = (.bool (decide ((f nm9) < 0))) | 23 => vv = (.bool (decide ((f nm9) < 0))) | 24 => vv = (.bool (decide ((f nm9) < 0))) | 25 => vv = lv17 | 26 => vv = (ni i) | 27 => vv = (.pointer (some adq4)) | 28 => vv = (.pointer (some (adq4.add 1))) | 29 => vv = (.int .i32 (f nm9)) | 30 => vv = (.bool (decide (0 < (f nm9)))) | 31 => vv = (.bool (decide (0 < (f nm9)))) | 32 => vv = v12 | 33 => vv = lv17 | 34 => vv = lv17 | 35 => vv = (ni i) | 36 => vv = (.pointer (some adq4)) | 37 => vv = (.pointer (some adq4)) | 38 => vv = (.string nm9) | 39 => vv = lv17 | 40 => vv = (ni i) | 41 => vv = (.pointer (some adq4)) | 42 => vv = (.pointer (some (adq4.add 1))) | 43 => vv = (.int .i32 (f nm9)) | 44 => vv = (.bool true) | 45 => vv = (.bool false) | 46 => vv = (.bool false) | 47 => vv = (.bool false) | _ => True) (fun _ _ => []) st313 fmix (by kernel_rfl) ((obS (obS (obS (obS (obS (obS (obS (obS (obS (obS (obS (obS (obS (obS (obS (obS (obS (obS (obS (obS (obS (obS (obS (obS (obS (obS (obS (obS (obS (obS (obS (obS (obS (obS (obS (obS (obS (obS (obS (obS (obS (obS (obS (obS (obS (obS (obS (obS ob0 ?_) ?_) ?_) ?_) ?_) ?_) ?_) ?_) ?_) ?_) ?_) ?_) ?_) ?_) ?_) ?_) ?_) ?_) ?_) ?_) ?_) ?_) ?_) ?_) ?_) ?_) ?_) ?_) ?_) ?_) ?_) ?_) ?_) ?_) ?_) ?_) ?_) ?_) ?_) ?_) ?_) ?_) ?_) ?_) ?_) ?_) ?_) ?_)) ?_
   ·intro vals ρ w787 X hd h0 st786
    have e788 : ρ 11 = (ni i) := (h0 11 rfl).trans hs315
    refine W1 (OpT.move (ni i) e788 ?_)
    refine WL.nil ?_
    exact oneQ.mk ⟨rfl, st786⟩
   ·intro vals ρ w790 X hd h0 st789
    have e791 : ρ 118 = (ni i) := ((hd 0 rfl).2 118 rfl).trans (hd 0 rfl).1
    refine W1 (OpT.igt .i64 (((i : Nat) : Int)) (0) e791 rfl ?_)
    refine WL.nil ?_
    exact oneQ.mk ⟨rfl, st789⟩
   ·intro vals ρ w793 X hd h0 st792
    have e794 : ρ 119 = (.bool (decide (0 < ((i : Nat) : Int)))) := ((hd 1 rfl).2 119 rfl).trans (hd 1 rfl).1
    refine W1 (OpT.move (.bool (decide (0 < ((i : Nat) : Int)))) e794 ?_)
    refine WL.nil ?_
    exact oneQ.mk ⟨rfl, st792⟩
   ·intro vals ρ w796 X hd h0 st795
    have e797 : ρ 5 = lv17 := (h0 5 rfl).trans hs317
    have e798 : ρ 120 = (.bool (decide (0 < ((i : Nat) : Int)))) := ((hd 2 rfl).2 120 rfl).trans (hd 2 rfl).1
    refine WL.pass (dj := 120) (c := false) rfl rfl rfl (e798.trans (bF h320)) rfl ?_
    refine WL.nil ?_
    exact oneQ.mk ⟨rfl, st795⟩
   ·intro vals ρ w800 X hd h0 st799
    have e801 : ρ 11 = (ni i) := (h0 11 rfl).trans hs315
    have e802 : ρ 120 = (.bool (decide (0 < ((i : Nat) : Int)))) := ((hd 2 rfl).2 120 rfl).trans (hd 2 rfl).1
    refine WL.pass (dj := 120) (c := false) rfl rfl rfl (e802.trans (bF h320)) rfl ?_
    refine WL.nil ?_
    exact oneQ.mk ⟨rfl, st799⟩
   ·intro vals ρ w804 X hd h0 st803
    have e805 : ρ 120 = (.bool (decide (0 < ((i : Nat) : Int)))) := ((hd 2 rfl).2 120 rfl).trans (hd 2 rfl).1
    have e806 : ρ 122 = undef := ((hd 4 rfl).2 122 rfl).trans (hd 4 rfl).1
    refine WL.pass (dj := 120) (c := false) rfl rfl rfl (e805.trans (bF h320)) rfl ?_
    refine WL.nil ?_
    exact oneQ.mk ⟨rfl, st803⟩
   ·intro vals ρ w808 X hd h0 st807
    have e809 : ρ 120 = (.bool (decide (0 < ((i : Nat) : Int)))) := ((hd 2 rfl).2 120 rfl).trans (hd 2 rfl).1
    have e810 : ρ 121 = undef := ((hd 3 rfl).2 121 rfl).trans (hd 3 rfl).1
    have e811 : ρ 123 = undef := ((hd 5 rfl).2 123 rfl).trans (hd 5 rfl).1
    refine WL.pass (dj := 120) (c := false) rfl rfl rfl (e809.trans (bF h320)) rfl ?_
    refine WL.nil ?_
    exact oneQ.mk ⟨rfl, st807⟩
   ·intro vals ρ w813 X hd h0 st812
    have e814 : ρ 120 = (.bool (decide (0 < ((i : Nat) : Int)))) := ((hd 2 rfl).2 120 rfl).trans (hd 2 rfl).1
    have e815 : ρ 124 = undef := ((hd 6 rfl).2 124 rfl).trans (hd 6 rfl).1
    refine WL.pass (dj := 120) (c := false) rfl rfl rfl (e814.trans (bF h320)) rfl ?_
    refine WL.nil ?_
    exact oneQ.mk ⟨rfl, st812⟩
   ·intro vals ρ w817 X hd h0 st816
    have e818 : ρ 120 = (.bool (decide (0 < ((i : Nat) : Int)))) := ((hd 2 rfl).2 120 rfl).trans (hd 2 rfl).1
    have e819 : ρ 125 = undef := ((hd 7 rfl).2 125 rfl).trans (hd 7 rfl).1
    refine WL.pass (dj := 120) (c := false) rfl rfl rfl (e818.trans (bF h320)) rfl ?_
    refine WL.nil ?_
    exact oneQ.mk ⟨rfl, st816⟩
   ·intro vals ρ w821 X hd h0 st820
    have e822 : ρ 5 = lv17 := (h0 5 rfl).trans hs317
    have e823 : ρ 120 = (.bool (decide (0 < ((i : Nat) : Int)))) := ((hd 2 rfl).2 120 rfl).trans (hd 2 rfl).1
    refine WL.pass (dj := 120) (c := false) rfl rfl rfl (e823.trans (bF h320)) rfl ?_
    refine WL.nil ?_
    exact oneQ.mk ⟨rfl, st820⟩
   ·intro vals ρ w825 X hd h0 st824
    have e826 : ρ 11 = (ni i) := (h0 11 rfl).trans hs315
    have e827 : ρ 120 = (.bool (decide (0 < ((i : Nat) : Int)))) := ((hd 2 rfl).2 120 rfl).trans (hd 2 rfl).1
    refine WL.pass (dj := 120) (c := false) rfl rfl rfl (e827.trans (bF h320)) rfl ?_
    refine WL.nil ?_
    exact oneQ.mk ⟨rfl, st824⟩
   ·intro vals ρ w829 X hd h0 st828
    have e830 : ρ 120 = (.bool (decide (0 < ((i : Nat) : Int)))) := ((hd 2 rfl).2 120 rfl).trans (hd 2 rfl).1
    have e831 : ρ 127 = undef := ((hd 9 rfl).2 127 rfl).trans (hd 9 rfl).1
    have e832 : ρ 128 = undef := ((hd 10 rfl).2 128 rfl).trans (hd 10 rfl).1
    refine WL.pass (dj := 120) (c := false) rfl rfl rfl (e830.trans (bF h320)) rfl ?_
    refine WL.nil ?_
    exact oneQ.mk ⟨rfl, st828⟩
   ·intro vals ρ w834 X hd h0 st833
    have e835 : ρ 120 = (.bool (decide (0 < ((i : Nat) : Int)))) := ((hd 2 rfl).2 120 rfl).trans (hd 2 rfl).1
    have e836 : ρ 129 = undef := ((hd 11 rfl).2 129 rfl).trans (hd 11 rfl).1
    refine WL.pass (dj := 120) (c := false) rfl rfl rfl (e835.trans (bF h320)) rfl ?_
    refine WL.nil ?_
    exact oneQ.mk ⟨rfl, st833⟩
   ·intro vals ρ w838 X hd h0 st837
    have e839 : ρ 120 = (.bool (decide (0 < ((i : Nat) : Int)))) := ((hd 2 rfl).2 120 rfl).trans (hd 2 rfl).1
    have e840 : ρ 130 = undef := ((hd 12 rfl).2 130 rfl).trans (hd 12 rfl).1
    refine WL.pass (dj := 120) (c := false) rfl rfl rfl (e839.trans (bF h320)) rfl ?_
    refine WL.nil ?_
    exact oneQ.mk ⟨rfl, st837⟩
   ·intro vals ρ w842 X hd h0 st841
    have e843 : ρ 120 = (.bool (decide (0 < ((i : Nat) : Int)))) := ((hd 2 rfl).2 120 rfl).trans (hd 2 rfl).1
    have e844 : ρ 126 = undef := ((hd 8 rfl).2 126 rfl).trans (hd 8 rfl).1
    have e845 : ρ 131 = undef := ((hd 13 rfl).2 131 rfl).trans (hd 13 rfl).1
    refine WL.pass (dj := 120) (c := false) rfl rfl rfl (e843.trans (bF h320)) rfl ?_
    refine WL.nil ?_
    exact oneQ.mk ⟨rfl, st841⟩
   ·intro vals ρ w847 X hd h0 st846
    have e848 : ρ 120 = (.bool (decide (0 < ((i : Nat) : Int)))) := ((hd 2 rfl).2 120 rfl).trans (hd 2 rfl).1
    have e849 : ρ 132 = undef := ((hd 14 rfl).2 132 rfl).trans (hd 14 rfl).1
    refine W1 (OpT.pickF (.bool false) (e848.trans (bF h320)) rfl ?_)
    refine WL.nil ?_
    exact oneQ.mk ⟨rfl, st846⟩
   ·intro vals ρ w851 X hd h0 st850
    have e852 : ρ 133 = (.bool false) := ((hd 15 rfl).2 133 rfl).trans (hd 15 rfl).1
    refine W1 (OpT.move (.bool false) e852 ?_)
    refine WL.nil ?_
    exact oneQ.mk ⟨rfl, st850⟩
   ·intro vals ρ w854 X hd h0 st853
    have e855 : ρ 5 = lv17 := (h0 5 rfl).trans hs317
    have e856 : ρ 134 = (.bool false) := ((hd 16 rfl).2 134 rfl).trans (hd 16 rfl).1
    refine W2 (dj := 134) e856 (OpT.move lv17 e855 ?_)
    refine WL.nil ?_
    exact oneQ.mk ⟨rfl, st853⟩
   ·intro vals ρ w858 X hd h0 st857
    have e859 : ρ 11 = (ni i) := (h0 11 rfl).trans hs315
    have e860 : ρ 134 = (.bool false) := ((hd 16 rfl).2 134 rfl).trans (hd 16 rfl).1
    refine W2 (dj := 134) e860 (OpT.move (ni i) e859 ?_)
    refine WL.nil ?_
    exact oneQ.mk ⟨rfl, st857⟩
   ·intro vals ρ w862 X hd h0 st861
    have e863 : ρ 134 = (.bool false) := ((hd 16 rfl).2 134 rfl).trans (hd 16 rfl).1
    have e864 : ρ 135 = lv17 := ((hd 17 rfl).2 135 rfl).trans (hd 17 rfl).1
    have e865 : ρ 136 = (ni i) := ((hd 18 rfl).2 136 rfl).trans (hd 18 rfl).1
    refine W2 (dj := 134) e863 (OpT.idxE tu28 ts41 e864 .i64 (i) e865 hEq4 ?_)
    refine WL.nil ?_
    exact oneQ.mk ⟨rfl, st861⟩
   ·intro vals ρ w872 X hd h0 st871
    have e873 : ρ 134 = (.bool false) := ((hd 16 rfl).2 134 rfl).trans (hd 16 rfl).1
    have e874 : ρ 137 = (.pointer (some adq4)) := ((hd 19 rfl).2 137 rfl).trans (hd 19 rfl).1
    refine W2 (dj := 134) e873 (OpT.field 1 adq4 (adq4.add 1) tf41_1 e874 rfl ?_)
    refine WL.nil ?_
    exact oneQ.mk ⟨rfl, st871⟩
   ·intro vals ρ w876 X hd h0 st875
    have e877 : ρ 134 = (.bool false) := ((hd 16 rfl).2 134 rfl).trans (hd 16 rfl).1
    have e878 : ρ 138 = (.pointer (some (adq4.add 1))) := ((hd 20 rfl).2 138 rfl).trans (hd 20 rfl).1
    refine W2 (dj := 134) e877 (OpT.loadS (adq4.add 1) (.int .i32 (f nm9)) ta21 e878 (hrq4.cell st875 (j := 1) rfl) ?_)
    refine WL.nil ?_
    exact oneQ.mk ⟨rfl, st875⟩
   ·intro vals ρ w880 X hd h0 st879
    have e881 : ρ 134 = (.bool false) := ((hd 16 rfl).2 134 rfl).trans (hd 16 rfl).1
    have e882 : ρ 139 = (.int .i32 (f nm9)) := ((hd 21 rfl).2 139 rfl).trans (hd 21 rfl).1
    refine W2 (dj := 134) e881 (OpT.ilt .i32 (f nm9) (0) e882 rfl ?_)
    refine WL.nil ?_
    exact oneQ.mk ⟨rfl, st879⟩
   ·intro vals ρ w884 X hd h0 st883
    have e885 : ρ 134 = (.bool false) := ((hd 16 rfl).2 134 rfl).trans (hd 16 rfl).1
    have e886 : ρ 140 = (.bool (decide ((f nm9) < 0))) := ((hd 22 rfl).2 140 rfl).trans (hd 22 rfl).1
    refine W1 (OpT.pickF (.bool (decide ((f nm9) < 0))) e885 e886 ?_)
    refine WL.nil ?_
    exact oneQ.mk ⟨rfl, st883⟩
   ·intro vals ρ w888 X hd h0 st887
    have e889 : ρ 141 = (.bool (decide ((f nm9) < 0))) := ((hd 23 rfl).2 141 rfl).trans (hd 23 rfl).1
    refine W1 (OpT.move (.bool (decide ((f nm9) < 0))) e889 ?_)
    refine WL.nil ?_
    exact oneQ.mk ⟨rfl, st887⟩
   ·intro vals ρ w891 X hd h0 st890
    have e892 : ρ 5 = lv17 := (h0 5 rfl).trans hs317
    have e893 : ρ 142 = (.bool (decide ((f nm9) < 0))) := ((hd 24 rfl).2 142 rfl).trans (hd 24 rfl).1
    refine W2 (dj := 142) (e893.trans (bF (by omega))) (OpT.move lv17 e892 ?_)
    refine WL.nil ?_
    exact oneQ.mk ⟨rfl, st890⟩
   ·intro vals ρ w895 X hd h0 st894
    have e896 : ρ 11 = (ni i) := (h0 11 rfl).trans hs315
    have e897 : ρ 142 = (.bool (decide ((f nm9) < 0))) := ((hd 24 rfl).2 142 rfl).trans (hd 24 rfl).1
    refine W2 (dj := 142) (e897.trans (bF (by omega))) (OpT.move (ni i) e896 ?_)
    refine WL.nil ?_
    exact oneQ.mk ⟨rfl, st894⟩
   ·intro vals ρ w899 X hd h0 st898
    have e900 : ρ 142 = (.bool (decide ((f nm9) < 0))) := ((hd 24 rfl).2 142 rfl).trans (hd 24 rfl).1
    have e901 : ρ 143 = lv17 := ((hd 25 rfl).2 143 rfl).trans (hd 25 rfl).1
    have e902 : ρ 144 = (ni i) := ((hd 26 rfl).2 144 rfl).trans (hd 26 rfl).1
    refine W2 (dj := 142) (e900.trans (bF (by omega))) (OpT.idxE tu28 ts41 e901 .i64 (i) e902 hEq4 ?_)
    refine WL.nil ?_
    exact oneQ.mk ⟨rfl, st898⟩
   ·intro vals ρ w909 X hd h0 st908
    have e910 : ρ 142 = (.bool (decide ((f nm9) < 0))) := ((hd 24 rfl).2 142 rfl).trans (hd 24 rfl).1
    have e911 : ρ 145 = (.pointer (some adq4)) := ((hd 27 rfl).2 145 rfl).trans (hd 27 rfl).1
    refine W2 (dj := 142) (e910.trans (bF (by omega))) (OpT.field 1 adq4 (adq4.add 1) tf41_1 e911 rfl ?_)
    refine WL.nil ?_
    exact oneQ.mk ⟨rfl, st908⟩
   ·intro vals ρ w913 X hd h0 st912
    have e914 : ρ 142 = (.bool (decide ((f nm9) < 0))) := ((hd 24 rfl).2 142 rfl).trans (hd 24 rfl).1
    have e915 : ρ 146 = (.pointer (some (adq4.add 1))) := ((hd 28 rfl).2 146 rfl).trans (hd 28 rfl).1
    refine W2 (dj := 142) (e914.trans (bF (by omega))) (OpT.loadS (adq4.add 1) (.int .i32 (f nm9)) ta21 e915 (hrq4.cell st912 (j := 1) rfl) ?_)
    refine WL.nil ?_
    exact oneQ.mk ⟨rfl, st912⟩
   ·intro vals ρ w917 X hd h0 st916
    have e918 : ρ 142 = (.bool (decide ((f nm9) < 0))) := ((hd 24 rfl).2 142 rfl).trans (hd 24 rfl).1
    have e919 : ρ 147 = (.int .i32 (f nm9)) := ((hd 29 rfl).2 147 rfl).trans (hd 29 rfl).1
    refine W2 (dj := 142) (e918.trans (bF (by omega))) (OpT.igt .i32 (f nm9) (0) e919 rfl ?_)
    refine WL.nil ?_
    exact oneQ.mk ⟨rfl, st916⟩
   ·intro vals ρ w921 X hd h0 st920
    have e922 : ρ 142 = (.bool (decide ((f nm9) < 0))) := ((hd 24 rfl).2 142 rfl).trans (hd 24 rfl).1
    have e923 : ρ 148 = (.bool (decide (0 < (f nm9)))) := ((hd 30 rfl).2 148 rfl).trans (hd 30 rfl).1
    refine W2 (dj := 142) (e922.trans (bF (by omega))) (OpT.move (.bool (decide (0 < (f nm9)))) e923 ?_)
    refine WL.nil ?_
    exact oneQ.mk ⟨rfl, st920⟩
   ·intro vals ρ w925 X hd h0 st924
    have e926 : ρ 4 = v12 := (h0 4 rfl).trans hs316
    have e927 : ρ 149 = (.bool (decide (0 < (f nm9)))) := ((hd 31 rfl).2 149 rfl).trans (hd 31 rfl).1
    refine W2 (dj := 149) (e927.trans (bT h785)) (OpT.move v12 e926 ?_)
    refine WL.nil ?_
    exact oneQ.mk ⟨rfl, st924⟩
   ·intro vals ρ w929 X hd h0 st928
    have e930 : ρ 5 = lv17 := (h0 5 rfl).trans hs317
    have e931 : ρ 149 = (.bool (decide (0 < (f nm9)))) := ((hd 31 rfl).2 149 rfl).trans (hd 31 rfl).1
    refine W2 (dj := 149) (e931.trans (bT h785)) (OpT.move lv17 e930 ?_)
    refine WL.nil ?_
    exact oneQ.mk ⟨rfl, st928⟩
   ·intro vals ρ w933 X hd h0 st932
    have e934 : ρ 5 = lv17 := (h0 5 rfl).trans hs317
    have e935 : ρ 149 = (.bool (decide (0 < (f nm9)))) := ((hd 31 rfl).2 149 rfl).trans (hd 31 rfl).1
    refine W2 (dj := 149) (e935.trans (bT h785)) (OpT.move lv17 e934 ?_)
    refine WL.nil ?_
    exact oneQ.mk ⟨rfl, st932⟩
   ·intro vals ρ w937 X hd h0 st936
    have e938 : ρ 11 = (ni i) := (h0 11 rfl).trans hs315
    have e939 : ρ 149 = (.bool (decide (0 < (f nm9)))) := ((hd 31 rfl).2 149 rfl).trans (hd 31 rfl).1
    refine W2 (dj := 149) (e939.trans (bT h785)) (OpT.move (ni i) e938 ?_)
    refine WL.nil ?_
    exact oneQ.mk ⟨rfl, st936⟩
   ·intro vals ρ w941 X hd h0 st940
    have e942 : ρ 149 = (.bool (decide (0 < (f nm9)))) := ((hd 31 rfl).2 149 rfl).trans (hd 31 rfl).1
    have e943 : ρ 152 = lv17 := ((hd 34 rfl).2 152 rfl).trans (hd 34 rfl).1
    have e944 : ρ 153 = (ni i) := ((hd 35 rfl).2 153 rfl).trans (hd 35 rfl).1
    refine W2 (dj := 149) (e942.trans (bT h785)) (OpT.idxE tu28 ts41 e943 .i64 (i) e944 hEq4 ?_)
    refine WL.nil ?_
    exact oneQ.mk ⟨rfl, st940⟩
   ·intro vals ρ w951 X hd h0 st950
    have e952 : ρ 149 = (.bool (decide (0 < (f nm9)))) := ((hd 31 rfl).2 149 rfl).trans (hd 31 rfl).1
    have e953 : ρ 154 = (.pointer (some adq4)) := ((hd 36 rfl).2 154 rfl).trans (hd 36 rfl).1
    refine W2 (dj := 149) (e952.trans (bT h785)) (OpT.field 0 adq4 adq4 tf41_0 e953 rfl ?_)
    refine WL.nil ?_
    exact oneQ.mk ⟨rfl, st950⟩
   ·intro vals ρ w955 X hd h0 st954
    have e956 : ρ 149 = (.bool (decide (0 < (f nm9)))) := ((hd 31 rfl).2 149 rfl).trans (hd 31 rfl).1
    have e957 : ρ 155 = (.pointer (some adq4)) := ((hd 37 rfl).2 155 rfl).trans (hd 37 rfl).1
    refine W2 (dj := 149) (e956.trans (bT h785)) (OpT.loadS adq4 (.string nm9) ta9 e957 (hrq4.cell st954 (j := 0) rfl) ?_)
    refine WL.nil ?_
    exact oneQ.mk ⟨rfl, st954⟩
   ·intro vals ρ w959 X hd h0 st958
    have e960 : ρ 5 = lv17 := (h0 5 rfl).trans hs317
    have e961 : ρ 149 = (.bool (decide (0 < (f nm9)))) := ((hd 31 rfl).2 149 rfl).trans (hd 31 rfl).1
    refine W2 (dj := 149) (e961.trans (bT h785)) (OpT.move lv17 e960 ?_)
    refine WL.nil ?_
    exact oneQ.mk ⟨rfl, st958⟩
   ·intro vals ρ w963 X hd h0 st962
    have e964 : ρ 11 = (ni i) := (h0 11 rfl).trans hs315
    have e965 : ρ 149 = (.bool (decide (0 < (f nm9)))) := ((hd 31 rfl).2 149 rfl).trans (hd 31 rfl).1
    refine W2 (dj := 149) (e965.trans (bT h785)) (OpT.move (ni i) e964 ?_)
    refine WL.nil ?_
    exact oneQ.mk ⟨rfl, st962⟩
   ·intro vals ρ w967 X hd h0 st966
    have e968 : ρ 149 = (.bool (decide (0 < (f nm9)))) := ((hd 31 rfl).2 149 rfl).trans (hd 31 rfl).1
    have e969 : ρ 157 = lv17 := ((hd 39 rfl).2 157 rfl).trans (hd 39 rfl).1
    have e970 : ρ 158 = (ni i) := ((hd 40 rfl).2 158 rfl).trans (hd 40 rfl).1
    refine W2 (dj := 149) (e968.trans (bT h785)) (OpT.idxE tu28 ts41 e969 .i64 (i) e970 hEq4 ?_)
    refine WL.nil ?_
    exact oneQ.mk ⟨rfl, st966⟩
   ·intro vals ρ w977 X hd h0 st976
    have e978 : ρ 149 = (.bool (decide (0 < (f nm9)))) := ((hd 31 rfl).2 149 rfl).trans (hd 31 rfl).1
    have e979 : ρ 159 = (.pointer (some adq4)) := ((hd 41 rfl).2 159 rfl).trans (hd 41 rfl).1
    refine W2 (dj := 149) (e978.trans (bT h785)) (OpT.field 1 adq4 (adq4.add 1) tf41_1 e979 rfl ?_)
    refine WL.nil ?_
    exact oneQ.mk ⟨rfl, st976⟩
   ·intro vals ρ w981 X hd h0 st980
    have e982 : ρ 149 = (.bool (decide (0 < (f nm9)))) := ((hd 31 rfl).2 149 rfl).trans (hd 31 rfl).1
    have e983 : ρ 160 = (.pointer (some (adq4.add 1))) := ((hd 42 rfl).2 160 rfl).trans (hd 42 rfl).1
    refine W2 (dj := 149) (e982.trans (bT h785)) (OpT.loadS (adq4.add 1) (.int .i32 (f nm9)) ta21 e983 (hrq4.cell st980 (j := 1) rfl) ?_)
    refine WL.nil ?_
    exact oneQ.mk ⟨rfl, st980⟩
   ·intro vals ρ w985 X hd h0 st984
    have e986 : ρ 149 = (.bool (decide (0 < (f nm9)))) := ((hd 31 rfl).2 149 rfl).trans (hd 31 rfl).1
    have e987 : ρ 150 = v12 := ((hd 32 rfl).2 150 rfl).trans (hd 32 rfl).1
    have e988 : ρ 151 = lv17 := ((hd 33 rfl).2 151 rfl).trans (hd 33 rfl).1
    have e989 : ρ 156 = (.string nm9) := ((hd 38 rfl).2 156 rfl).trans (hd 38 rfl).1
    have e990 : ρ 161 = (.int .i32 (f nm9)) := ((hd 43 rfl).2 161 rfl).trans (hd 43 rfl).1
    refine W2 (dj := 149) (e986.trans (bT h785)) (OpT.callS cal12 [] [] [v12, lv17, (.string nm9), (.int .i32 (f nm9))] rfl (ca4 e987 e988 e989 e990) (reason_spec st984 hL31 hs28 hlev (fun e he => namesG_mem.2 (edge_names he).2) hnl hfb nm9 (List.mem_of_getElem? hnm9) h785) ?_)
    rintro v991 w992 ⟨rfl, st993⟩
    refine WL.nil ?_
    exact oneQ.mk ⟨rfl, st993⟩
   ·intro vals ρ w995 X hd h0 st994
    have e996 : ρ 149 = (.bool (decide (0 < (f nm9)))) := ((hd 31 rfl).2 149 rfl).trans (hd 31 rfl).1
    have e997 : ρ 162 = (.bool true) := ((hd 44 rfl).2 162 rfl).trans (hd 44 rfl).1
    refine W2 (dj := 149) (e996.trans (bT h785)) (OpT.not true e997 ?_)
    refine WL.nil ?_
    exact oneQ.mk ⟨rfl, st994⟩
   ·intro vals ρ w999 X hd h0 st998
    have e1000 : ρ 142 = (.bool (decide ((f nm9) < 0))) := ((hd 24 rfl).2 142 rfl).trans (hd 24 rfl).1
    have e1001 : ρ 149 = (.bool (decide (0 < (f nm9)))) := ((hd 31 rfl).2 149 rfl).trans (hd 31 rfl).1
    have e1002 : ρ 163 = (.bool false) := ((hd 45 rfl).2 163 rfl).trans (hd 45 rfl).1
    refine W2 (dj := 142) (e1000.trans (bF (by omega))) (OpT.pickT (.bool false) (e1001.trans (bT h785)) e1002 ?_)
    refine WL.nil ?_
    exact oneQ.mk ⟨rfl, st998⟩
   ·intro vals ρ w1004 X hd h0 st1003
    have e1005 : ρ 142 = (.bool (decide ((f nm9) < 0))) := ((hd 24 rfl).2 142 rfl).trans (hd 24 rfl).1
    have e1006 : ρ 164 = (.bool false) := ((hd 46 rfl).2 164 rfl).trans (hd 46 rfl).1
    refine W1 (OpT.pickF (.bool false) (e1005.trans (bF (by omega))) e1006 ?_)
    refine WL.nil ?_
    exact oneQ.mk ⟨rfl, st1003⟩
   intro vals ρ1009 w1008 hv h0 st1007
   replace st1007 : St Z26 w19 w1008 (L) := st1007
   have e1010 : ρ1009 4 = v12 := (h0 4 rfl).trans hs316
   have e1011 : ρ1009 5 = lv17 := (h0 5 rfl).trans hs317
   have e1012 : ρ1009 11 = (ni i) := (h0 11 rfl).trans hs315
   have e1013 : ρ1009 165 = (.bool false) := ((hv 47 rfl).2 165 rfl).trans (hv 47 rfl).1
   clear hv h0
   refine Wnt ?_
   refine WC.condF e1013 ?_
   refine WC.skip ?_
   refine blkQ_n ?_
   refine thenQ_n ?_
   refine WC.region ?_
   refine W1 (OpT.move (ni i) e1012 ?_)
   refine W1 (OpT.iadd .i64 (((i : Nat) : Int)) (1) (((i + 1 : Nat) : Int)) rfl rfl (wadd (a := i) (b := 1) (by omega)) ?_)
   refine W1 (OpT.assign (ni (i + 1)) rfl ?_)
   refine WL.nil ?_
   exact loopQ_n _ (by omega) ⟨i + 1, rfl, by omega, rfl, e1010, e1011, st1007⟩
  refine WC.draw 48 (fun jj vv => match jj with | 0 => vv = (ni i) | 1 => vv = (.bool (decide (0 < ((i : Nat) : Int)))) | 2 => vv = (.bool (decide (0 < ((i : Nat) : Int)))) | 3 => vv = undef | 4 => vv = undef | 5 => vv = undef | 6 => vv = undef | 7 => vv = undef | 8 => vv = undef | 9 => vv = undef | 10 => vv = undef | 11 => vv = undef | 12 => vv = undef | 13 => vv = undef | 14 => vv = undef | 15 => vv = (.bool false) | 16 => vv = (.bool false) | 17 => vv = lv17 | 18 => vv = (ni i) | 19 => vv = (.pointer (some adq4)) | 20 => vv = (.pointer (some (adq4.add 1))) | 21 => vv = (.int .i32 (f nm9)) | 22 => vv = (.bool (decide ((f nm9) < 0))) | 23 => vv = (.bool (decide ((f nm9) < 0))) | 24 => vv = (.bool (decide ((f nm9) < 0))) | 25 => vv = lv17 | 26 => vv = (ni i) | 27 => vv = (.pointer (some adq4)) | 28 => vv = (.pointer (some (adq4.add 1))) | 29 => vv = (.int .i32 (f nm9)) | 30 => vv = (.bool (decide (0 < (f nm9)))) | 31 => vv = (.bool (decide (0 < (f nm9)))) | 32 => vv = undef | 33 => vv = undef | 34 => vv = undef | 35 => vv = undef | 36 => vv = undef | 37 => vv = undef | 38 => vv = undef | 39 => vv = undef | 40 => vv = undef | 41 => vv = undef | 42 => vv = undef | 43 => vv = undef | 44 => vv = undef | 45 => vv = undef | 46 => vv = (.bool false) | 47 => vv = (.bool false) | _ => True) (fun _ _ => []) st313 fmix (by kernel_rfl) ((obS (obS (obS (obS (obS (obS (obS (obS (obS (obS (obS (obS (obS (obS (obS (obS (obS (obS (obS (obS (obS (obS (obS (obS (obS (obS (obS (obS (obS (obS (obS (obS (obS (obS (obS (obS (obS (obS (obS (obS (obS (obS (obS (obS (obS (obS (obS (obS ob0 ?_) ?_) ?_) ?_) ?_) ?_) ?_) ?_) ?_) ?_) ?_) ?_) ?_) ?_) ?_) ?_) ?_) ?_) ?_) ?_) ?_) ?_) ?_) ?_) ?_) ?_) ?_) ?_) ?_) ?_) ?_) ?_) ?_) ?_) ?_) ?_) ?_) ?_) ?_) ?_) ?_) ?_) ?_) ?_) ?_) ?_) ?_) ?_)) ?_
  ·intro vals ρ w1015 X hd h0 st1014
   have e1016 : ρ 11 = (ni i) := (h0 11 rfl).trans hs315
   refine W1 (OpT.move (ni i) e1016 ?_)
   refine WL.nil ?_
   exact oneQ.mk ⟨rfl, st1014⟩
  ·intro vals ρ w1018 X hd h0 st1017
   have e1019 : ρ 118 = (ni i) := ((hd 0 rfl).2 118 rfl).trans (hd 0 rfl).1
   refine W1 (OpT.igt .i64 (((i : Nat) : Int)) (0) e1019 rfl ?_)
   refine WL.nil ?_
   exact oneQ.mk ⟨rfl, st1017⟩
  ·intro vals ρ w1021 X hd h0 st1020
   have e1022 : ρ 119 = (.bool (decide (0 < ((i : Nat) : Int)))) := ((hd 1 rfl).2 119 rfl).trans (hd 1 rfl).1
   refine W1 (OpT.move (.bool (decide (0 < ((i : Nat) : Int)))) e1022 ?_)
   refine WL.nil ?_
   exact oneQ.mk ⟨rfl, st1020⟩
  ·intro vals ρ w1024 X hd h0 st1023
   have e1025 : ρ 5 = lv17 := (h0 5 rfl).trans hs317
   have e1026 : ρ 120 = (.bool (decide (0 < ((i : Nat) : Int)))) := ((hd 2 rfl).2 120 rfl).trans (hd 2 rfl).1
   refine WL.pass (dj := 120) (c := false) rfl rfl rfl (e1026.trans (bF h320)) rfl ?_
   refine WL.nil ?_
   exact oneQ.mk ⟨rfl, st1023⟩
  ·intro vals ρ w1028 X hd h0 st1027
   have e1029 : ρ 11 = (ni i) := (h0 11 rfl).trans hs315
   have e1030 : ρ 120 = (.bool (decide (0 < ((i : Nat) : Int)))) := ((hd 2 rfl).2 120 rfl).trans (hd 2 rfl).1
   refine WL.pass (dj := 120) (c := false) rfl rfl rfl (e1030.trans (bF h320)) rfl ?_
   refine WL.nil ?_
   exact oneQ.mk ⟨rfl, st1027⟩
  ·intro vals ρ w1032 X hd h0 st1031
   have e1033 : ρ 120 = (.bool (decide (0 < ((i : Nat) : Int)))) := ((hd 2 rfl).2 120 rfl).trans (hd 2 rfl).1
   have e1034 : ρ 122 = undef := ((hd 4 rfl).2 122 rfl).trans (hd 4 rfl).1
   refine WL.pass (dj := 120) (c := false) rfl rfl rfl (e1033.trans (bF h320)) rfl ?_
   refine WL.nil ?_
   exact oneQ.mk ⟨rfl, st1031⟩
  ·intro vals ρ w1036 X hd h0 st1035
   have e1037 : ρ 120 = (.bool (decide (0 < ((i : Nat) : Int)))) := ((hd 2 rfl).2 120 rfl).trans (hd 2 rfl).1
   have e1038 : ρ 121 = undef := ((hd 3 rfl).2 121 rfl).trans (hd 3 rfl).1
   have e1039 : ρ 123 = undef := ((hd 5 rfl).2 123 rfl).trans (hd 5 rfl).1
   refine WL.pass (dj := 120) (c := false) rfl rfl rfl (e1037.trans (bF h320)) rfl ?_
   refine WL.nil ?_
   exact oneQ.mk ⟨rfl, st1035⟩
  ·intro vals ρ w1041 X hd h0 st1040
   have e1042 : ρ 120 = (.bool (decide (0 < ((i : Nat) : Int)))) := ((hd 2 rfl).2 120 rfl).trans (hd 2 rfl).1
   have e1043 : ρ 124 = undef := ((hd 6 rfl).2 124 rfl).trans (hd 6 rfl).1
   refine WL.pass (dj := 120) (c := false) rfl rfl rfl (e1042.trans (bF h320)) rfl ?_
   refine WL.nil ?_
   exact oneQ.mk ⟨rfl, st1040⟩
  ·intro vals ρ w1045 X hd h0 st1044
   have e1046 : ρ 120 = (.bool (decide (0 < ((i : Nat) : Int)))) := ((hd 2 rfl).2 120 rfl).trans (hd 2 rfl).1
   have e1047 : ρ 125 = undef := ((hd 7 rfl).2 125 rfl).trans (hd 7 rfl).1
   refine WL.pass (dj := 120) (c := false) rfl rfl rfl (e1046.trans (bF h320)) rfl ?_
   refine WL.nil ?_
   exact oneQ.mk ⟨rfl, st1044⟩
  ·intro vals ρ w1049 X hd h0 st1048
   have e1050 : ρ 5 = lv17 := (h0 5 rfl).trans hs317
   have e1051 : ρ 120 = (.bool (decide (0 < ((i : Nat) : Int)))) := ((hd 2 rfl).2 120 rfl).trans (hd 2 rfl).1
   refine WL.pass (dj := 120) (c := false) rfl rfl rfl (e1051.trans (bF h320)) rfl ?_
   refine WL.nil ?_
   exact oneQ.mk ⟨rfl, st1048⟩
  ·intro vals ρ w1053 X hd h0 st1052
   have e1054 : ρ 11 = (ni i) := (h0 11 rfl).trans hs315
   have e1055 : ρ 120 = (.bool (decide (0 < ((i : Nat) : Int)))) := ((hd 2 rfl).2 120 rfl).trans (hd 2 rfl).1
   refine WL.pass (dj := 120) (c := false) rfl rfl rfl (e1055.trans (bF h320)) rfl ?_
   refine WL.nil ?_
   exact oneQ.mk ⟨rfl, st1052⟩
  ·intro vals ρ w1057 X hd h0 st1056
   have e1058 : ρ 120 = (.bool (decide (0 < ((i : Nat) : Int)))) := ((hd 2 rfl).2 120 rfl).trans (hd 2 rfl).1
   have e1059 : ρ 127 = undef := ((hd 9 rfl).2 127 rfl).trans (hd 9 rfl).1
   have e1060 : ρ 128 = undef := ((hd 10 rfl).2 128 rfl).trans (hd 10 rfl).1
   refine WL.pass (dj := 120) (c := false) rfl rfl rfl (e1058.trans (bF h320)) rfl ?_
   refine WL.nil ?_
   exact oneQ.mk ⟨rfl, st1056⟩
  ·intro vals ρ w1062 X hd h0 st1061
   have e1063 : ρ 120 = (.bool (decide (0 < ((i : Nat) : Int)))) := ((hd 2 rfl).2 120 rfl).trans (hd 2 rfl).1
   have e1064 : ρ 129 = undef := ((hd 11 rfl).2 129 rfl).trans (hd 11 rfl).1
   refine WL.pass (dj := 120) (c := false) rfl rfl rfl (e1063.trans (bF h320)) rfl ?_
   refine WL.nil ?_
   exact oneQ.mk ⟨rfl, st1061⟩
  ·intro vals ρ w1066 X hd h0 st1065
   have e1067 : ρ 120 = (.bool (decide (0 < ((i : Nat) : Int)))) := ((hd 2 rfl).2 120 rfl).trans (hd 2 rfl).1
   have e1068 : ρ 130 = undef := ((hd 12 rfl).2 130 rfl).trans (hd 12 rfl).1
   refine WL.pass (dj := 120) (c := false) rfl rfl rfl (e1067.trans (bF h320)) rfl ?_
   refine WL.nil ?_
   exact oneQ.mk ⟨rfl, st1065⟩
  ·intro vals ρ w1070 X hd h0 st1069
   have e1071 : ρ 120 = (.bool (decide (0 < ((i : Nat) : Int)))) := ((hd 2 rfl).2 120 rfl).trans (hd 2 rfl).1
   have e1072 : ρ 126 = undef := ((hd 8 rfl).2 126 rfl).trans (hd 8 rfl).1
   have e1073 : ρ 131 = undef := ((hd 13 rfl).2 131 rfl).trans (hd 13 rfl).1
   refine WL.pass (dj := 120) (c := false) rfl rfl rfl (e1071.trans (bF h320)) rfl ?_
   refine WL.nil ?_
   exact oneQ.mk ⟨rfl, st1069⟩
  ·intro vals ρ w1075 X hd h0 st1074
   have e1076 : ρ 120 = (.bool (decide (0 < ((i : Nat) : Int)))) := ((hd 2 rfl).2 120 rfl).trans (hd 2 rfl).1
   have e1077 : ρ 132 = undef := ((hd 14 rfl).2 132 rfl).trans (hd 14 rfl).1
   refine W1 (OpT.pickF (.bool false) (e1076.trans (bF h320)) rfl ?_)
   refine WL.nil ?_
   exact oneQ.mk ⟨rfl, st1074⟩
  ·intro vals ρ w1079 X hd h0 st1078
   have e1080 : ρ 133 = (.bool false) := ((hd 15 rfl).2 133 rfl).trans (hd 15 rfl).1
   refine W1 (OpT.move (.bool false) e1080 ?_)
   refine WL.nil ?_
   exact oneQ.mk ⟨rfl, st1078⟩
  ·intro vals ρ w1082 X hd h0 st1081
   have e1083 : ρ 5 = lv17 := (h0 5 rfl).trans hs317
   have e1084 : ρ 134 = (.bool false) := ((hd 16 rfl).2 134 rfl).trans (hd 16 rfl).1
   refine W2 (dj := 134) e1084 (OpT.move lv17 e1083 ?_)
   refine WL.nil ?_
   exact oneQ.mk ⟨rfl, st1081⟩
  ·intro vals ρ w1086 X hd h0 st1085
   have e1087 : ρ 11 = (ni i) := (h0 11 rfl).trans hs315
   have e1088 : ρ 134 = (.bool false) := ((hd 16 rfl).2 134 rfl).trans (hd 16 rfl).1
   refine W2 (dj := 134) e1088 (OpT.move (ni i) e1087 ?_)
   refine WL.nil ?_
   exact oneQ.mk ⟨rfl, st1085⟩
  ·intro vals ρ w1090 X hd h0 st1089
   have e1091 : ρ 134 = (.bool false) := ((hd 16 rfl).2 134 rfl).trans (hd 16 rfl).1
   have e1092 : ρ 135 = lv17 := ((hd 17 rfl).2 135 rfl).trans (hd 17 rfl).1
   have e1093 : ρ 136 = (ni i) := ((hd 18 rfl).2 136 rfl).trans (hd 18 rfl).1
   refine W2 (dj := 134) e1091 (OpT.idxE tu28 ts41 e1092 .i64 (i) e1093 hEq4 ?_)
   refine WL.nil ?_
   exact oneQ.mk ⟨rfl, st1089⟩
  ·intro vals ρ w1100 X hd h0 st1099
   have e1101 : ρ 134 = (.bool false) := ((hd 16 rfl).2 134 rfl).trans (hd 16 rfl).1
   have e1102 : ρ 137 = (.pointer (some adq4)) := ((hd 19 rfl).2 137 rfl).trans (hd 19 rfl).1
   refine W2 (dj := 134) e1101 (OpT.field 1 adq4 (adq4.add 1) tf41_1 e1102 rfl ?_)
   refine WL.nil ?_
   exact oneQ.mk ⟨rfl, st1099⟩
  ·intro vals ρ w1104 X hd h0 st1103
   have e1105 : ρ 134 = (.bool false) := ((hd 16 rfl).2 134 rfl).trans (hd 16 rfl).1
   have e1106 : ρ 138 = (.pointer (some (adq4.add 1))) := ((hd 20 rfl).2 138 rfl).trans (hd 20 rfl).1
   refine W2 (dj := 134) e1105 (OpT.loadS (adq4.add 1) (.int .i32 (f nm9)) ta21 e1106 (hrq4.cell st1103 (j := 1) rfl) ?_)
   refine WL.nil ?_
   exact oneQ.mk ⟨rfl, st1103⟩
  ·intro vals ρ w1108 X hd h0 st1107
   have e1109 : ρ 134 = (.bool false) := ((hd 16 rfl).2 134 rfl).trans (hd 16 rfl).1
   have e1110 : ρ 139 = (.int .i32 (f nm9)) := ((hd 21 rfl).2 139 rfl).trans (hd 21 rfl).1
   refine W2 (dj := 134) e1109 (OpT.ilt .i32 (f nm9) (0) e1110 rfl ?_)
   refine WL.nil ?_
   exact oneQ.mk ⟨rfl, st1107⟩
  ·intro vals ρ w1112 X hd h0 st1111
   have e1113 : ρ 134 = (.bool false) := ((hd 16 rfl).2 134 rfl).trans (hd 16 rfl).1
   have e1114 : ρ 140 = (.bool (decide ((f nm9) < 0))) := ((hd 22 rfl).2 140 rfl).trans (hd 22 rfl).1
   refine W1 (OpT.pickF (.bool (decide ((f nm9) < 0))) e1113 e1114 ?_)
   refine WL.nil ?_
   exact oneQ.mk ⟨rfl, st1111⟩
  ·intro vals ρ w1116 X hd h0 st1115
   have e1117 : ρ 141 = (.bool (decide ((f nm9) < 0))) := ((hd 23 rfl).2 141 rfl).trans (hd 23 rfl).1
   refine W1 (OpT.move (.bool (decide ((f nm9) < 0))) e1117 ?_)
   refine WL.nil ?_
   exact oneQ.mk ⟨rfl, st1115⟩
  ·intro vals ρ w1119 X hd h0 st1118
   have e1120 : ρ 5 = lv17 := (h0 5 rfl).trans hs317
   have e1121 : ρ 142 = (.bool (decide ((f nm9) < 0))) := ((hd 24 rfl).2 142 rfl).trans (hd 24 rfl).1
   refine W2 (dj := 142) (e1121.trans (bF (by omega))) (OpT.move lv17 e1120 ?_)
   refine WL.nil ?_
   exact oneQ.mk ⟨rfl, st1118⟩
  ·intro vals ρ w1123 X hd h0 st1122
   have e1124 : ρ 11 = (ni i) := (h0 11 rfl).trans hs315
   have e1125 : ρ 142 = (.bool (decide ((f nm9) < 0))) := ((hd 24 rfl).2 142 rfl).trans (hd 24 rfl).1
   refine W2 (dj := 142) (e1125.trans (bF (by omega))) (OpT.move (ni i) e1124 ?_)
   refine WL.nil ?_
   exact oneQ.mk ⟨rfl, st1122⟩
  ·intro vals ρ w1127 X hd h0 st1126
   have e1128 : ρ 142 = (.bool (decide ((f nm9) < 0))) := ((hd 24 rfl).2 142 rfl).trans (hd 24 rfl).1
   have e1129 : ρ 143 = lv17 := ((hd 25 rfl).2 143 rfl).trans (hd 25 rfl).1
   have e1130 : ρ 144 = (ni i) := ((hd 26 rfl).2 144 rfl).trans (hd 26 rfl).1
   refine W2 (dj := 142) (e1128.trans (bF (by omega))) (OpT.idxE tu28 ts41 e1129 .i64 (i) e1130 hEq4 ?_)
   refine WL.nil ?_
   exact oneQ.mk ⟨rfl, st1126⟩
  ·intro vals ρ w1137 X hd h0 st1136
   have e1138 : ρ 142 = (.bool (decide ((f nm9) < 0))) := ((hd 24 rfl).2 142 rfl).trans (hd 24 rfl).1
   have e1139 : ρ 145 = (.pointer (some adq4)) := ((hd 27 rfl).2 145 rfl).trans (hd 27 rfl).1
   refine W2 (dj := 142) (e1138.trans (bF (by omega))) (OpT.field 1 adq4 (adq4.add 1) tf41_1 e1139 rfl ?_)
   refine WL.nil ?_
   exact oneQ.mk ⟨rfl, st1136⟩
  ·intro vals ρ w1141 X hd h0 st1140
   have e1142 : ρ 142 = (.bool (decide ((f nm9) < 0))) := ((hd 24 rfl).2 142 rfl).trans (hd 24 rfl).1
   have e1143 : ρ 146 = (.pointer (some (adq4.add 1))) := ((hd 28 rfl).2 146 rfl).trans (hd 28 rfl).1
   refine W2 (dj := 142) (e1142.trans (bF (by omega))) (OpT.loadS (adq4.add 1) (.int .i32 (f nm9)) ta21 e1143 (hrq4.cell st1140 (j := 1) rfl) ?_)
   refine WL.nil ?_
   exact oneQ.mk ⟨rfl, st1140⟩
  ·intro vals ρ w1145 X hd h0 st1144
   have e1146 : ρ 142 = (.bool (decide ((f nm9) < 0))) := ((hd 24 rfl).2 142 rfl).trans (hd 24 rfl).1
   have e1147 : ρ 147 = (.int .i32 (f nm9)) := ((hd 29 rfl).2 147 rfl).trans (hd 29 rfl).1
   refine W2 (dj := 142) (e1146.trans (bF (by omega))) (OpT.igt .i32 (f nm9) (0) e1147 rfl ?_)
   refine WL.nil ?_
   exact oneQ.mk ⟨rfl, st1144⟩
  ·intro vals ρ w1149 X hd h0 st1148
   have e1150 : ρ 142 = (.bool (decide ((f nm9) < 0))) := ((hd 24 rfl).2 142 rfl).trans (hd 24 rfl).1
   have e1151 : ρ 148 = (.bool (decide (0 < (f nm9)))) := ((hd 30 rfl).2 148 rfl).trans (hd 30 rfl).1
   refine W2 (dj := 142) (e1150.trans (bF (by omega))) (OpT.move (.bool (decide (0 < (f nm9)))) e1151 ?_)
   refine WL.nil ?_
   exact oneQ.mk ⟨rfl, st1148⟩
  ·intro vals ρ w1153 X hd h0 st1152
   have e1154 : ρ 4 = v12 := (h0 4 rfl).trans hs316
   have e1155 : ρ 149 = (.bool (decide (0 < (f nm9)))) := ((hd 31 rfl).2 149 rfl).trans (hd 31 rfl).1
   refine WL.pass (dj := 149) (c := false) rfl rfl rfl (e1155.trans (bF h785)) rfl ?_
   refine WL.nil ?_
   exact oneQ.mk ⟨rfl, st1152⟩
  ·intro vals ρ w1157 X hd h0 st1156
   have e1158 : ρ 5 = lv17 := (h0 5 rfl).trans hs317
   have e1159 : ρ 149 = (.bool (decide (0 < (f nm9)))) := ((hd 31 rfl).2 149 rfl).trans (hd 31 rfl).1
   refine WL.pass (dj := 149) (c := false) rfl rfl rfl (e1159.trans (bF h785)) rfl ?_
   refine WL.nil ?_
   exact oneQ.mk ⟨rfl, st1156⟩
  ·intro vals ρ w1161 X hd h0 st1160
   have e1162 : ρ 5 = lv17 := (h0 5 rfl).trans hs317
   have e1163 : ρ 149 = (.bool (decide (0 < (f nm9)))) := ((hd 31 rfl).2 149 rfl).trans (hd 31 rfl).1
   refine WL.pass (dj := 149) (c := false) rfl rfl rfl (e1163.trans (bF h785)) rfl ?_
   refine WL.nil ?_
   exact oneQ.mk ⟨rfl, st1160⟩
  ·intro vals ρ w1165 X hd h0 st1164
   have e1166 : ρ 11 = (ni i) := (h0 11 rfl).trans hs315
   have e1167 : ρ 149 = (.bool (decide (0 < (f nm9)))) := ((hd 31 rfl).2 149 rfl).trans (hd 31 rfl).1
   refine WL.pass (dj := 149) (c := false) rfl rfl rfl (e1167.trans (bF h785)) rfl ?_
   refine WL.nil ?_
   exact oneQ.mk ⟨rfl, st1164⟩
  ·intro vals ρ w1169 X hd h0 st1168
   have e1170 : ρ 149 = (.bool (decide (0 < (f nm9)))) := ((hd 31 rfl).2 149 rfl).trans (hd 31 rfl).1
   have e1171 : ρ 152 = undef := ((hd 34 rfl).2 152 rfl).trans (hd 34 rfl).1
   have e1172 : ρ 153 = undef := ((hd 35 rfl).2 153 rfl).trans (hd 35 rfl).1
   refine WL.pass (dj := 149) (c := false) rfl rfl rfl (e1170.trans (bF h785)) rfl ?_
   refine WL.nil ?_
   exact oneQ.mk ⟨rfl, st1168⟩
  ·intro vals ρ w1174 X hd h0 st1173
   have e1175 : ρ 149 = (.bool (decide (0 < (f nm9)))) := ((hd 31 rfl).2 149 rfl).trans (hd 31 rfl).1
   have e1176 : ρ 154 = undef := ((hd 36 rfl).2 154 rfl).trans (hd 36 rfl).1
   refine WL.pass (dj := 149) (c := false) rfl rfl rfl (e1175.trans (bF h785)) rfl ?_
   refine WL.nil ?_
   exact oneQ.mk ⟨rfl, st1173⟩
  ·intro vals ρ w1178 X hd h0 st1177
   have e1179 : ρ 149 = (.bool (decide (0 < (f nm9)))) := ((hd 31 rfl).2 149 rfl).trans (hd 31 rfl).1
   have e1180 : ρ 155 = undef := ((hd 37 rfl).2 155 rfl).trans (hd 37 rfl).1
   refine WL.pass (dj := 149) (c := false) rfl rfl rfl (e1179.trans (bF h785)) rfl ?_
   refine WL.nil ?_
   exact oneQ.mk ⟨rfl, st1177⟩
  ·intro vals ρ w1182 X hd h0 st1181
   have e1183 : ρ 5 = lv17 := (h0 5 rfl).trans hs317
   have e1184 : ρ 149 = (.bool (decide (0 < (f nm9)))) := ((hd 31 rfl).2 149 rfl).trans (hd 31 rfl).1
   refine WL.pass (dj := 149) (c := false) rfl rfl rfl (e1184.trans (bF h785)) rfl ?_
   refine WL.nil ?_
   exact oneQ.mk ⟨rfl, st1181⟩
  ·intro vals ρ w1186 X hd h0 st1185
   have e1187 : ρ 11 = (ni i) := (h0 11 rfl).trans hs315
   have e1188 : ρ 149 = (.bool (decide (0 < (f nm9)))) := ((hd 31 rfl).2 149 rfl).trans (hd 31 rfl).1
   refine WL.pass (dj := 149) (c := false) rfl rfl rfl (e1188.trans (bF h785)) rfl ?_
   refine WL.nil ?_
   exact oneQ.mk ⟨rfl, st1185⟩
  ·intro vals ρ w1190 X hd h0 st1189
   have e1191 : ρ 149 = (.bool (decide (0 < (f nm9)))) := ((hd 31 rfl).2 149 rfl).trans (hd 31 rfl).1
   have e1192 : ρ 157 = undef := ((hd 39 rfl).2 157 rfl).trans (hd 39 rfl).1
   have e1193 : ρ 158 = undef := ((hd 40 rfl).2 158 rfl).trans (hd 40 rfl).1
   refine WL.pass (dj := 149) (c := false) rfl rfl rfl (e1191.trans (bF h785)) rfl ?_
   refine WL.nil ?_
   exact oneQ.mk ⟨rfl, st1189⟩
  ·intro vals ρ w1195 X hd h0 st1194
   have e1196 : ρ 149 = (.bool (decide (0 < (f nm9)))) := ((hd 31 rfl).2 149 rfl).trans (hd 31 rfl).1
   have e1197 : ρ 159 = undef := ((hd 41 rfl).2 159 rfl).trans (hd 41 rfl).1
   refine WL.pass (dj := 149) (c := false) rfl rfl rfl (e1196.trans (bF h785)) rfl ?_
   refine WL.nil ?_
   exact oneQ.mk ⟨rfl, st1194⟩
  ·intro vals ρ w1199 X hd h0 st1198
   have e1200 : ρ 149 = (.bool (decide (0 < (f nm9)))) := ((hd 31 rfl).2 149 rfl).trans (hd 31 rfl).1
   have e1201 : ρ 160 = undef := ((hd 42 rfl).2 160 rfl).trans (hd 42 rfl).1
   refine WL.pass (dj := 149) (c := false) rfl rfl rfl (e1200.trans (bF h785)) rfl ?_
   refine WL.nil ?_
   exact oneQ.mk ⟨rfl, st1198⟩
  ·intro vals ρ w1203 X hd h0 st1202
   have e1204 : ρ 149 = (.bool (decide (0 < (f nm9)))) := ((hd 31 rfl).2 149 rfl).trans (hd 31 rfl).1
   have e1205 : ρ 150 = undef := ((hd 32 rfl).2 150 rfl).trans (hd 32 rfl).1
   have e1206 : ρ 151 = undef := ((hd 33 rfl).2 151 rfl).trans (hd 33 rfl).1
   have e1207 : ρ 156 = undef := ((hd 38 rfl).2 156 rfl).trans (hd 38 rfl).1
   have e1208 : ρ 161 = undef := ((hd 43 rfl).2 161 rfl).trans (hd 43 rfl).1
   refine WL.pass (dj := 149) (c := false) rfl rfl rfl (e1204.trans (bF h785)) rfl ?_
   refine WL.nil ?_
   exact oneQ.mk ⟨rfl, st1202⟩
  ·intro vals ρ w1210 X hd h0 st1209
   have e1211 : ρ 149 = (.bool (decide (0 < (f nm9)))) := ((hd 31 rfl).2 149 rfl).trans (hd 31 rfl).1
   have e1212 : ρ 162 = undef := ((hd 44 rfl).2 162 rfl).trans (hd 44 rfl).1
   refine WL.pass (dj := 149) (c := false) rfl rfl rfl (e1211.trans (bF h785)) rfl ?_
   refine WL.nil ?_
   exact oneQ.mk ⟨rfl, st1209⟩
  ·intro vals ρ w1214 X hd h0 st1213
   have e1215 : ρ 142 = (.bool (decide ((f nm9) < 0))) := ((hd 24 rfl).2 142 rfl).trans (hd 24 rfl).1
   have e1216 : ρ 149 = (.bool (decide (0 < (f nm9)))) := ((hd 31 rfl).2 149 rfl).trans (hd 31 rfl).1
   have e1217 : ρ 163 = undef := ((hd 45 rfl).2 163 rfl).trans (hd 45 rfl).1
   refine W2 (dj := 142) (e1215.trans (bF (by omega))) (OpT.pickF (.bool false) (e1216.trans (bF h785)) rfl ?_)
   refine WL.nil ?_
   exact oneQ.mk ⟨rfl, st1213⟩
  ·intro vals ρ w1219 X hd h0 st1218
   have e1220 : ρ 142 = (.bool (decide ((f nm9) < 0))) := ((hd 24 rfl).2 142 rfl).trans (hd 24 rfl).1
   have e1221 : ρ 164 = (.bool false) := ((hd 46 rfl).2 164 rfl).trans (hd 46 rfl).1
   refine W1 (OpT.pickF (.bool false) (e1220.trans (bF (by omega))) e1221 ?_)
   refine WL.nil ?_
   exact oneQ.mk ⟨rfl, st1218⟩
  intro vals ρ1224 w1223 hv h0 st1222
  replace st1222 : St Z26 w19 w1223 (L) := st1222
  have e1225 : ρ1224 4 = v12 := (h0 4 rfl).trans hs316
  have e1226 : ρ1224 5 = lv17 := (h0 5 rfl).trans hs317
  have e1227 : ρ1224 11 = (ni i) := (h0 11 rfl).trans hs315
  have e1228 : ρ1224 165 = (.bool false) := ((hv 47 rfl).2 165 rfl).trans (hv 47 rfl).1
  clear hv h0
  refine Wnt ?_
  refine WC.condF e1228 ?_
  refine WC.skip ?_
  refine blkQ_n ?_
  refine thenQ_n ?_
  refine WC.region ?_
  refine W1 (OpT.move (ni i) e1227 ?_)
  refine W1 (OpT.iadd .i64 (((i : Nat) : Int)) (1) (((i + 1 : Nat) : Int)) rfl rfl (wadd (a := i) (b := 1) (by omega)) ?_)
  refine W1 (OpT.assign (ni (i + 1)) rfl ?_)
  refine WL.nil ?_
  exact loopQ_n _ (by omega) ⟨i + 1, rfl, by omega, rfl, e1225, e1226, st1222⟩
 refine WC.exit ?_
 refine thenQ_x ?_
 refine loopQ_x ?_
 refine blkQ_hit ?_
 refine thenQ_n ?_
 refine WC.seq ?_
 refine Wsr ?_
 refine W1 (OpT.assign (ii 0) rfl ?_)
 refine Wnt ?_
 refine WC.block ?_
 refine WC.loop (fun m ρ wz => ∃ (j : Nat), m = (edgesF rs).length - j ∧ j ≤ (edgesF rs).length ∧ ρ 12 = (ni j) ∧ ρ 4 = v12 ∧ ρ 5 = lv17 ∧ St Z26 w19 wz (L)) _ ⟨0, rfl, by omega, rfl, hs316, hs317, st313⟩ ?_
 rintro m1229 ρ1230 w1231 ⟨j, hm1237, hp1233, hs1234, hs1235, hs1236, st1232⟩
 refine WC.seq ?_
 refine Wsr ?_
 refine W1 (OpT.move (ni j) hs1234 ?_)
 refine W1 (OpT.move v12 hs1235 ?_)
 refine W1 (OpT.lenR rfl tu26 hL31 rfl ?_)
 refine W1 (OpT.ilt .i64 (((j : Nat) : Int)) ((((edgesF rs).length : Nat) : Int)) rfl rfl ?_)
 refine Wnt ?_
 refine WC.condP (((j : Nat) : Int) < (((edgesF rs).length : Nat) : Int)) rfl (fun h1238 => ?_) (fun h1238 => ?_)
 ·refine WC.skip ?_
  refine thenQ_n ?_
  refine WC.seq ?_
  refine WC.block ?_
  refine WC.seq ?_
  obtain ⟨ed, hed⟩ : ∃ x, (edgesF rs)[j]? = some x := ⟨_, List.getElem?_eq_getElem (by omega)⟩
  have hok := hlev.sol.ok ed (List.mem_of_getElem? hed)
  have hst : 0 ≤ stI ed := by unfold stI; split <;> omega
  refine WC.region ?_
  refine W1 (OpT.move lv17 hs1236 ?_)
  refine W1 (OpT.move v12 hs1235 ?_)
  refine W1 (OpT.move (ni j) hs1234 ?_)
  refine W1 (OpT.idxX tu26 ts35 hL31 rfl .i64 (j) rfl hed (fun ad1240 cs1241 hr1242 hR1243 => ?_))
  have hR1243c := hR1243
  obtain rfl := hR1243
  refine W1 (OpT.field 0 ad1240 ad1240 tf35_0 rfl rfl ?_)
  refine W1 (OpT.loadS ad1240 (.string ed.frm) ta9 rfl (hr1242.cell st1232 (j := 0) rfl) ?_)
  refine W1 (OpT.callS cal13 [] [] [lv17, (.string ed.frm)] rfl (ca2 rfl rfl) (level_at st1232 hs28 (namesG_mem.2 (edge_names (List.mem_of_getElem? hed)).1)) ?_)
  rintro v1244 w1245 ⟨rfl, st1246⟩
  refine W1 (OpT.move (.tuple #[(.int .i32 (f ed.frm)), (.bool true)]) rfl ?_)
  refine W1 (OpT.extract [(.int .i32 (f ed.frm)), (.bool true)] (.int .i32 (f ed.frm)) rfl rfl ?_)
  refine W1 (OpT.extract [(.int .i32 (f ed.frm)), (.bool true)] (.bool true) rfl rfl ?_)
  refine W1 (OpT.assign (.int .i32 (f ed.frm)) rfl ?_)
  refine W1 (OpT.assign (.bool true) rfl ?_)
  refine Wns ?_
  refine W1 (OpT.move lv17 hs1236 ?_)
  refine W1 (OpT.move v12 hs1235 ?_)
  refine W1 (OpT.move (ni j) hs1234 ?_)
  refine W1 (OpT.idxX tu26 ts35 hL31 rfl .i64 (j) rfl hed (fun ad1248 cs1249 hr1250 hR1251 => ?_))
  have hR1251c := hR1251
  obtain rfl := hR1251
  refine W1 (OpT.field 1 ad1248 (ad1248.add 1) tf35_1 rfl rfl ?_)
  refine W1 (OpT.loadS (ad1248.add 1) (.string ed.to) ta9 rfl (hr1250.cell st1246 (j := 1) rfl) ?_)
  refine W1 (OpT.callS cal13 [] [] [lv17, (.string ed.to)] rfl (ca2 rfl rfl) (level_at st1246 hs28 (namesG_mem.2 (edge_names (List.mem_of_getElem? hed)).2)) ?_)
  rintro v1252 w1253 ⟨rfl, st1254⟩
  refine W1 (OpT.move (.tuple #[(.int .i32 (f ed.to)), (.bool true)]) rfl ?_)
  refine W1 (OpT.extract [(.int .i32 (f ed.to)), (.bool true)] (.int .i32 (f ed.to)) rfl rfl ?_)
  refine W1 (OpT.extract [(.int .i32 (f ed.to)), (.bool true)] (.bool true) rfl rfl ?_)
  refine W1 (OpT.assign (.int .i32 (f ed.to)) rfl ?_)
  refine W1 (OpT.assign (.bool true) rfl ?_)
  refine Wns ?_
  refine W1 (OpT.move (.bool true) rfl ?_)
  refine W1 (OpT.not true rfl ?_)
  refine W1 (OpT.move (.bool false) rfl ?_)
  refine W2 (dj := 194) rfl (OpT.move (.bool true) rfl ?_)
  refine W2 (dj := 194) rfl (OpT.not true rfl ?_)
  refine W1 (OpT.pickF (.bool false) rfl rfl ?_)
  refine W1 (OpT.move (.bool false) rfl ?_)
  refine W2 (dj := 198) rfl (OpT.move (.int .i32 (f ed.frm)) rfl ?_)
  refine W2 (dj := 198) rfl (OpT.move (.int .i32 (f ed.to)) rfl ?_)
  refine W2 (dj := 198) rfl (OpT.ilt .i32 (f ed.frm) (f ed.to) rfl rfl ?_)
  refine W1 (OpT.pickF (.bool (decide ((f ed.frm) < (f ed.to)))) rfl rfl ?_)
  refine W1 (OpT.move (.bool (decide ((f ed.frm) < (f ed.to)))) rfl ?_)
  refine W2 (dj := 203) (bF (by omega)) (OpT.move (.int .i32 (f ed.frm)) rfl ?_)
  refine W2 (dj := 203) (bF (by omega)) (OpT.move (.int .i32 (f ed.to)) rfl ?_)
  refine W2 (dj := 203) (bF (by omega)) (OpT.ieq .i32 (f ed.frm) (f ed.to) rfl rfl ?_)
  refine W2 (dj := 203) (bF (by omega)) (OpT.move (.bool (decide ((f ed.frm) = (f ed.to)))) rfl ?_)
  by_cases h1255 : (f ed.frm) = (f ed.to)
  ·refine W2 (dj := 207) (bT h1255) (OpT.move v12 hs1235 ?_)
   refine W2 (dj := 207) (bT h1255) (OpT.move (ni j) hs1234 ?_)
   refine W2 (dj := 207) (bT h1255) (OpT.idxX tu26 ts35 hL31 rfl .i64 (j) rfl hed (fun ad1257 cs1258 hr1259 hR1260 => ?_))
   have hR1260c := hR1260
   obtain rfl := hR1260
   refine W2 (dj := 207) (bT h1255) (OpT.field 2 ad1257 (ad1257.add 2) tf35_2 rfl rfl ?_)
   refine W2 (dj := 207) (bT h1255) (OpT.loadS (ad1257.add 2) (.int .i8 (ed.kind)) ta33 rfl (hr1259.cell st1254 (j := 2) rfl) ?_)
   refine W2 (dj := 207) (bT h1255) (OpT.ine .i8 (ed.kind) (1) rfl rfl ?_)
   refine W2 (dj := 203) (bF (by omega)) (OpT.pickT (.bool (decide (ed.kind ≠ 1))) (bT h1255) rfl ?_)
   refine W1 (OpT.pickF (.bool (decide (ed.kind ≠ 1))) (bF (by omega)) rfl ?_)
   refine Wnt ?_
   refine WC.condP (ed.kind ≠ 1) rfl (fun h1261 => ?_) (fun h1261 => ?_)
   ·refine WC.seq ?_
    refine WC.region ?_
    refine W1 (OpT.assign (.bool false) rfl ?_)
    refine Wnt ?_
    refine WC.ret <| blkQ_r <| thenQ_r <| loopQ_r <| blkQ_r <| thenQ_r <| retQ.one (.bool false) rfl ?_
    exfalso
    unfold stI at hok
    rw [if_neg h1261] at hok
    omega
   refine WC.skip ?_
   refine blkQ_n ?_
   refine thenQ_n ?_
   refine WC.region ?_
   refine W1 (OpT.move (ni j) hs1234 ?_)
   refine W1 (OpT.iadd .i64 (((j : Nat) : Int)) (1) (((j + 1 : Nat) : Int)) rfl rfl (wadd (a := j) (b := 1) (by omega)) ?_)
   refine W1 (OpT.assign (ni (j + 1)) rfl ?_)
   refine WL.nil ?_
   exact loopQ_n _ (by omega) ⟨j + 1, rfl, by omega, rfl, hs1235, hs1236, st1254⟩
  refine WL.pass (dj := 207) (c := false) rfl rfl rfl (bF h1255) rfl ?_
  refine WL.pass (dj := 207) (c := false) rfl rfl rfl (bF h1255) rfl ?_
  refine WL.pass (dj := 207) (c := false) rfl rfl rfl (bF h1255) rfl ?_
  refine WL.pass (dj := 207) (c := false) rfl rfl rfl (bF h1255) rfl ?_
  refine WL.pass (dj := 207) (c := false) rfl rfl rfl (bF h1255) rfl ?_
  refine WL.pass (dj := 207) (c := false) rfl rfl rfl (bF h1255) rfl ?_
  refine W2 (dj := 203) (bF (by omega)) (OpT.pickF (.bool false) (bF h1255) rfl ?_)
  refine W1 (OpT.pickF (.bool false) (bF (by omega)) rfl ?_)
  refine Wnt ?_
  refine WC.condF rfl ?_
  refine WC.skip ?_
  refine blkQ_n ?_
  refine thenQ_n ?_
  refine WC.region ?_
  refine W1 (OpT.move (ni j) hs1234 ?_)
  refine W1 (OpT.iadd .i64 (((j : Nat) : Int)) (1) (((j + 1 : Nat) : Int)) rfl rfl (wadd (a := j) (b := 1) (by omega)) ?_)
  refine W1 (OpT.assign (ni (j + 1)) rfl ?_)
  refine WL.nil ?_
  exact loopQ_n _ (by omega) ⟨j + 1, rfl, by omega, rfl, hs1235, hs1236, st1254⟩
 refine WC.exit ?_
 refine thenQ_x ?_
 refine loopQ_x ?_
 refine blkQ_hit ?_
 refine thenQ_n ?_
 refine Wsr ?_
 refine W1 (OpT.callS cal11 [] [] [] rfl ca0 (lives_spec st1232) ?_)
 rintro v1262 w1263 ⟨rfl, st1264⟩
 refine W1 (OpT.assign (.bool true) rfl ?_)
 refine Wnt ?_
 refine WC.ret <| retQ.one (.bool true) rfl ?_
 exact ⟨_, rfl, rfl, (hx22.back (hx27.back st1264))⟩

end Go.Ped
