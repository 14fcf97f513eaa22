/- The law's own lists. -/
import Derived.Test.YtojkakpkmfopbaaF13
set_option linter.unusedVariables false
set_option maxRecDepth 20000
namespace Go.Ped
open Go Go.Eng Go.RowKit Go.Proofs

theorem tu43 : Try.prog.underlying 43 = some (.slice 4) := by kernel_rfl
theorem ts4 : sizeB Try.prog 4 = some 1 := by kernel_rfl
theorem tz4 : zeroB Try.prog 4 = some (.bool false) := by kernel_rfl
theorem tb4 : (Try.prog.info? 4).map (·.bytes) = some 1 := by kernel_rfl
def snocF {α : Type} (g : Ltr → α) (es : List α) (x : Ltr) : List α := es ++ [g x]
theorem snocF_eq {α : Type} (g : Ltr → α) (xs : List Ltr) : fld (snocF g) [] xs = (xs.filter isAtm).map g := by
  have : ∀ (ys : List Ltr) (b : List α), ys.foldl (snocF g) b = b ++ ys.map g := by
    intro ys
    induction ys with
    | nil => intro b; simp
    | cons y ys ih => intro b; simp [ih, snocF]
  simpa [fld] using this (xs.filter isAtm) []
theorem snocF_len {α : Type} (g : Ltr → α) (xs : List Ltr) (i : Nat) : (fld (snocF g) [] (xs.take i)).length ≤ i := by
  rw [snocF_eq, List.length_map]
  exact Nat.le_trans (List.length_filter_le _ _) (by rw [List.length_take]; omega)
theorem latoms_spec {Z : Nat → Prop} {w0 w : World} {L : List Res} (st : St Z w0 w L) (y : Rul) (n : Int) (av bv : Value) (ha : rAgr.sl Z w0 av y.head) (hb : rLtr.sl Z w0 bv y.body) (hs : y.body.length < 1048576) : Calls Try.prog 7 #[(.agg #[(.string y.pred), av, bv]), (.int .i64 (n))] w (Ret fun v w' => St Z w0 w' (Row 47 4 v ((y.body.filter isAtm).map (fun x => (⟨y.pred, x.atom.pred, 0, n⟩ : Edg))).length (((y.body.filter isAtm).map (fun x => (⟨y.pred, x.atom.pred, 0, n⟩ : Edg))).flatMap ecs) :: L)) := by
 have hbl := Rl.sl_le hb
 replace st := st.rowNil 47 4
 refine calls_of_WC (m := 45) (rs := [.tmp 4]) Try.func7 rfl rfl rfl rfl ?_
 refine Wsr ?_
 refine W1 (OpT.box st (.agg #[(.string y.pred), av, bv]) [(.string y.pred), av, bv] rfl rfl (fun b1 w2 st3 => ?_))
 refine W1 (OpT.assign vn rfl ?_)
 refine Wns ?_
 refine W1 (OpT.assign vn rfl ?_)
 refine Wnt ?_
 refine WC.seq ?_
 refine Wsr ?_
 refine W1 (OpT.assign (ii 0) rfl ?_)
 refine Wnt ?_
 refine WC.block ?_
 have st4 : St Z w0 w2 (Row 47 4 vn 0 [] :: Blk b1 31 [(.string y.pred), av, bv] :: L) := St.selT [Blk b1 31 [(.string y.pred), av, bv], Row 47 4 vn 0 []] [1, 0] rfl (by decide) st3
 refine WC.loop (fun m ρ wz => ∃ (i : Nat), ∃ (lf : Value), m = y.body.length - i ∧ i ≤ y.body.length ∧ ρ 5 = lf ∧ ρ 6 = (ni i) ∧ ρ 1 = (.int .i64 (n)) ∧ ρ 2 = (pt b1 0) ∧ St Z w0 wz (Row 47 4 lf (fld (snocF (fun x => (⟨y.pred, x.atom.pred, 0, n⟩ : Edg))) [] (y.body.take i)).length ((fld (snocF (fun x => (⟨y.pred, x.atom.pred, 0, n⟩ : Edg))) [] (y.body.take i)).flatMap ecs) :: Blk b1 31 [(.string y.pred), av, bv] :: L)) _ ⟨0, vn, rfl, by omega, rfl, rfl, rfl, rfl, st4⟩ ?_
 rintro m5 ρ6 w7 ⟨i, lf, hm14, hp9, hs11, hs10, hs12, hs13, st8⟩
 have olf := st8.rowOne (i := 0) rfl
 have clf := st8.rowCel (i := 0) rfl
 have hal := snocF_len (fun x => (⟨y.pred, x.atom.pred, 0, n⟩ : Edg)) y.body i
 refine WC.seq ?_
 refine Wsr ?_
 refine W1 (OpT.move (ni i) hs10 ?_)
 refine W1 (OpT.field 2 ⟨b1, 0, none⟩ ⟨b1, 2, none⟩ tf31_2 hs13 rfl ?_)
 refine W1 (OpT.loadS ⟨b1, 2, none⟩ bv ta29 rfl (st8.cellB (i := 1) rfl rfl) ?_)
 refine W1 (OpT.lenR rfl tu29 hb rfl ?_)
 refine W1 (OpT.ilt .i64 (((i : Nat) : Int)) (((y.body.length : Nat) : Int)) rfl rfl ?_)
 refine Wnt ?_
 refine WC.condP (((i : Nat) : Int) < ((y.body.length : Nat) : Int)) rfl (fun h15 => ?_) (fun h15 => ?_)
 ·refine WC.skip ?_
  refine thenQ_n ?_
  refine WC.seq ?_
  refine WC.block ?_
  refine Wsr ?_
  refine W1 (OpT.field 2 ⟨b1, 0, none⟩ ⟨b1, 2, none⟩ tf31_2 hs13 rfl ?_)
  refine W1 (OpT.loadS ⟨b1, 2, none⟩ bv ta29 rfl (st8.cellB (i := 1) rfl rfl) ?_)
  refine W1 (OpT.move (ni i) hs10 ?_)
  obtain ⟨x16, hx16⟩ : ∃ x, (y.body)[i]? = some x := ⟨_, List.getElem?_eq_getElem (by omega)⟩
  refine W1 (OpT.idxX tu29 ts61 hb rfl .i64 (i) rfl hx16 (fun ad17 cs18 hr19 hR20 => ?_))
  have hR20c := hR20
  obtain ⟨av21, lk22, rk23, rfl, ha24, hl25, hr26⟩ := hR20
  refine W1 (OpT.field 0 ad17 ad17 tf61_0 rfl rfl ?_)
  refine W1 (OpT.loadS ad17 (.int .i8 (x16.kind)) ta51 rfl (hr19.cell st8 (j := 0) rfl) ?_)
  refine W1 (OpT.ieq .i8 (x16.kind) (1) rfl rfl ?_)
  refine W1 (OpT.move (.bool (decide (x16.kind = 1))) rfl ?_)
  by_cases h27 : x16.kind = 1
  ·refine WL.pass (dj := 21) (c := true) rfl rfl rfl (bT h27) rfl ?_
   refine WL.pass (dj := 21) (c := true) rfl rfl rfl (bT h27) rfl ?_
   refine WL.pass (dj := 21) (c := true) rfl rfl rfl (bT h27) rfl ?_
   refine WL.pass (dj := 21) (c := true) rfl rfl rfl (bT h27) rfl ?_
   refine WL.pass (dj := 21) (c := true) rfl rfl rfl (bT h27) rfl ?_
   refine WL.pass (dj := 21) (c := true) rfl rfl rfl (bT h27) rfl ?_
   refine WL.pass (dj := 21) (c := true) rfl rfl rfl (bT h27) rfl ?_
   refine W1 (OpT.pickT (.bool true) (bT h27) rfl ?_)
   refine Wnt ?_
   refine WC.condT rfl ?_
   obtain ⟨adq1, csq1, hEq1, hrq1, hRq1⟩ := Rl.sl_el hb hx16
   have hRq1c := hRq1
   obtain ⟨av100021, lk100022, rk100023, rfl, ha100024, hl100025, hr100026⟩ := hRq1
   refine WC.draw 13 (fun jj vv => match jj with | 0 => vv = lf | 1 => vv = (pt b1 0) | 2 => vv = (.string y.pred) | 3 => vv = (pt b1 2) | 4 => vv = bv | 5 => vv = (ni i) | 6 => vv = (.pointer (some adq1)) | 7 => vv = (.pointer (some (adq1.add 1))) | 8 => vv = (.pointer (some (adq1.add 1))) | 9 => vv = (.string x16.atom.pred) | 10 => vv = (.int .i64 (n)) | 11 => vv = (.agg #[(.string y.pred), (.string x16.atom.pred), (.int .i8 (0)), (.int .i64 (n))]) | 12 => vv = (.slice (some ⟨(bk vv), 0, none⟩) 1 1) | _ => True) (fun jj vv => match jj with | 12 => [Blk (bk vv) 47 [(.string y.pred), (.string x16.atom.pred), (.int .i8 (0)), (.int .i64 (n))]] | _ => []) st8 fmix (by kernel_rfl) ((obS (obS (obS (obS (obS (obS (obS (obS (obS (obS (obS (obS (obS ob0 ?_) ?_) ?_) ?_) ?_) ?_) ?_) ?_) ?_) ?_) ?_) ?_) ?_)) ?_
   ·intro vals ρ w29 X hd h0 st28
    have e30 : ρ 5 = lf := (h0 5 rfl).trans hs11
    refine W1 (OpT.move lf e30 ?_)
    refine WL.nil ?_
    exact oneQ.mk ⟨rfl, st28⟩
   ·intro vals ρ w32 X hd h0 st31
    have e33 : ρ 2 = (pt b1 0) := (h0 2 rfl).trans hs13
    refine W1 (OpT.field 0 ⟨b1, 0, none⟩ ⟨b1, 0, none⟩ tf31_0 e33 rfl ?_)
    refine WL.nil ?_
    exact oneQ.mk ⟨rfl, st31⟩
   ·intro vals ρ w35 X hd h0 st34
    have e36 : ρ 31 = (pt b1 0) := ((hd 1 rfl).2 31 rfl).trans (hd 1 rfl).1
    refine W1 (OpT.loadS ⟨b1, 0, none⟩ (.string y.pred) ta9 e36 (st34.cellB (i := 1) rfl rfl) ?_)
    refine WL.nil ?_
    exact oneQ.mk ⟨rfl, st34⟩
   ·intro vals ρ w38 X hd h0 st37
    have e39 : ρ 2 = (pt b1 0) := (h0 2 rfl).trans hs13
    refine W1 (OpT.field 2 ⟨b1, 0, none⟩ ⟨b1, 2, none⟩ tf31_2 e39 rfl ?_)
    refine WL.nil ?_
    exact oneQ.mk ⟨rfl, st37⟩
   ·intro vals ρ w41 X hd h0 st40
    have e42 : ρ 33 = (pt b1 2) := ((hd 3 rfl).2 33 rfl).trans (hd 3 rfl).1
    refine W1 (OpT.loadS ⟨b1, 2, none⟩ bv ta29 e42 (st40.cellB (i := 1) rfl rfl) ?_)
    refine WL.nil ?_
    exact oneQ.mk ⟨rfl, st40⟩
   ·intro vals ρ w44 X hd h0 st43
    have e45 : ρ 6 = (ni i) := (h0 6 rfl).trans hs10
    refine W1 (OpT.move (ni i) e45 ?_)
    refine WL.nil ?_
    exact oneQ.mk ⟨rfl, st43⟩
   ·intro vals ρ w47 X hd h0 st46
    have e48 : ρ 34 = bv := ((hd 4 rfl).2 34 rfl).trans (hd 4 rfl).1
    have e49 : ρ 35 = (ni i) := ((hd 5 rfl).2 35 rfl).trans (hd 5 rfl).1
    refine W1 (OpT.idxE tu29 ts61 e48 .i64 (i) e49 hEq1 ?_)
    refine WL.nil ?_
    exact oneQ.mk ⟨rfl, st46⟩
   ·intro vals ρ w56 X hd h0 st55
    have e57 : ρ 36 = (.pointer (some adq1)) := ((hd 6 rfl).2 36 rfl).trans (hd 6 rfl).1
    refine W1 (OpT.field 1 adq1 (adq1.add 1) tf61_1 e57 rfl ?_)
    refine WL.nil ?_
    exact oneQ.mk ⟨rfl, st55⟩
   ·intro vals ρ w59 X hd h0 st58
    have e60 : ρ 37 = (.pointer (some (adq1.add 1))) := ((hd 7 rfl).2 37 rfl).trans (hd 7 rfl).1
    refine W1 (OpT.field 0 (adq1.add 1) (adq1.add 1) tf54_0 e60 rfl ?_)
    refine WL.nil ?_
    exact oneQ.mk ⟨rfl, st58⟩
   ·intro vals ρ w62 X hd h0 st61
    have e63 : ρ 38 = (.pointer (some (adq1.add 1))) := ((hd 8 rfl).2 38 rfl).trans (hd 8 rfl).1
    refine W1 (OpT.loadS (adq1.add 1) (.string x16.atom.pred) ta9 e63 (hrq1.cell st61 (j := 1) rfl) ?_)
    refine WL.nil ?_
    exact oneQ.mk ⟨rfl, st61⟩
   ·intro vals ρ w65 X hd h0 st64
    have e66 : ρ 1 = (.int .i64 (n)) := (h0 1 rfl).trans hs12
    refine W1 (OpT.move (.int .i64 (n)) e66 ?_)
    refine WL.nil ?_
    exact oneQ.mk ⟨rfl, st64⟩
   ·intro vals ρ w68 X hd h0 st67
    have e69 : ρ 32 = (.string y.pred) := ((hd 2 rfl).2 32 rfl).trans (hd 2 rfl).1
    have e70 : ρ 39 = (.string x16.atom.pred) := ((hd 9 rfl).2 39 rfl).trans (hd 9 rfl).1
    have e71 : ρ 40 = (.int .i64 (n)) := ((hd 10 rfl).2 40 rfl).trans (hd 10 rfl).1
    refine W1 (OpT.build [(0, (.string y.pred)), (1, (.string x16.atom.pred)), (3, (.int .i64 (n)))] [(.string y.pred), (.string x16.atom.pred), (.int .i8 (0)), (.int .i64 (n))] tz47 tp47 (mp3 e69 e70 e71) rfl ?_)
    refine WL.nil ?_
    exact oneQ.mk ⟨rfl, st67⟩
   ·intro vals ρ w73 X hd h0 st72
    have e74 : ρ 41 = (.agg #[(.string y.pred), (.string x16.atom.pred), (.int .i8 (0)), (.int .i64 (n))]) := ((hd 11 rfl).2 41 rfl).trans (hd 11 rfl).1
    refine W1 (OpT.buildSlice st72 [(0, (.agg #[(.string y.pred), (.string x16.atom.pred), (.int .i8 (0)), (.int .i64 (n))]))] [(.string y.pred), (.string x16.atom.pred), (.int .i8 (0)), (.int .i64 (n))] tu24 ts47 tz47 (mp1 e74) (by kernel_rfl) (by decide) (fun b75 w76 st77 => ?_))
    refine WL.nil ?_
    exact oneQ.mk ⟨rfl, st77⟩
   intro vals ρ80 w79 hv h0 st78
   replace st78 : St Z w0 w79 (Blk (bk (vals 12)) 47 [(.string y.pred), (.string x16.atom.pred), (.int .i8 (0)), (.int .i64 (n))] :: Row 47 4 lf (fld (snocF (fun x => (⟨y.pred, x.atom.pred, 0, n⟩ : Edg))) [] (y.body.take i)).length ((fld (snocF (fun x => (⟨y.pred, x.atom.pred, 0, n⟩ : Edg))) [] (y.body.take i)).flatMap ecs) :: Blk b1 31 [(.string y.pred), av, bv] :: L) := st78
   have e82 : ρ80 1 = (.int .i64 (n)) := (h0 1 rfl).trans hs12
   have e83 : ρ80 2 = (pt b1 0) := (h0 2 rfl).trans hs13
   have e84 : ρ80 5 = lf := (h0 5 rfl).trans hs11
   have e85 : ρ80 6 = (ni i) := (h0 6 rfl).trans hs10
   have e86 : ρ80 30 = lf := ((hv 0 rfl).2 30 rfl).trans (hv 0 rfl).1
   have e87 : ρ80 42 = (.slice (some ⟨(bk (vals 12)), 0, none⟩) 1 1) := ((hv 12 rfl).2 42 rfl).trans (hv 12 rfl).1
   clear hv h0
   generalize bk (vals 12) = b81 at *
   have st88 : St Z w0 w79 (Blk b81 47 [(.string y.pred), (.string x16.atom.pred), (.int .i8 (0)), (.int .i64 (n))] :: Row 47 4 lf (fld (snocF (fun x => (⟨y.pred, x.atom.pred, 0, n⟩ : Edg))) [] (y.body.take i)).length ((fld (snocF (fun x => (⟨y.pred, x.atom.pred, 0, n⟩ : Edg))) [] (y.body.take i)).flatMap ecs) :: Blk b1 31 [(.string y.pred), av, bv] :: L) := St.selT [Blk b81 47 [(.string y.pred), (.string x16.atom.pred), (.int .i8 (0)), (.int .i64 (n))], Row 47 4 lf (fld (snocF (fun x => (⟨y.pred, x.atom.pred, 0, n⟩ : Edg))) [] (y.body.take i)).length ((fld (snocF (fun x => (⟨y.pred, x.atom.pred, 0, n⟩ : Edg))) [] (y.body.take i)).flatMap ecs), Blk b1 31 [(.string y.pred), av, bv]] [0, 1, 2] rfl (by decide) st78
   refine W1 (OpT.append st88 1 tu24 ts47 tz47 rfl tb47 (by decide) e86 e87 rfl rfl (by omega) (by omega) (fun v89 w90 st91 hn92 => ?_))
   have o93 := st91.rowOne (i := 0) rfl
   have c94 := st91.rowCel (i := 0) rfl
   refine W1 (OpT.assign v89 rfl ?_)
   refine WL.nil ?_
   refine blkQ_n ?_
   refine thenQ_n ?_
   refine WC.region ?_
   refine W1 (OpT.move (ni i) e85 ?_)
   refine W1 (OpT.iadd .i64 (((i : Nat) : Int)) (1) (((i + 1 : Nat) : Int)) rfl rfl (wadd (a := i) (b := 1) (by omega)) ?_)
   refine W1 (OpT.assign (ni (i + 1)) rfl ?_)
   refine WL.nil ?_
   have st95 : St Z w0 w90 (Row 47 4 v89 (fld (snocF (fun x => (⟨y.pred, x.atom.pred, 0, n⟩ : Edg))) [] (y.body.take (i + 1))).length ((fld (snocF (fun x => (⟨y.pred, x.atom.pred, 0, n⟩ : Edg))) [] (y.body.take (i + 1))).flatMap ecs) :: Blk b1 31 [(.string y.pred), av, bv] :: L) := by rw [fld_in (snocF (fun x => (⟨y.pred, x.atom.pred, 0, n⟩ : Edg))) [] hx16 (by simp [isAtm, *])]; simp only [snocF, List.length_append, List.length_cons, List.length_nil, List.flatMap_append, List.flatMap_cons, List.flatMap_nil, List.append_nil, List.map_append, List.map_cons, List.map_nil]; exact st91
   exact loopQ_n _ (by omega) ⟨i + 1, v89, rfl, by omega, rfl, rfl, e82, e83, st95⟩
  refine W2 (dj := 21) (bF h27) (OpT.field 2 ⟨b1, 0, none⟩ ⟨b1, 2, none⟩ tf31_2 hs13 rfl ?_)
  refine W2 (dj := 21) (bF h27) (OpT.loadS ⟨b1, 2, none⟩ bv ta29 rfl (st8.cellB (i := 1) rfl rfl) ?_)
  refine W2 (dj := 21) (bF h27) (OpT.move (ni i) hs10 ?_)
  refine W2 (dj := 21) (bF h27) (OpT.idxX tu29 ts61 hb rfl .i64 (i) rfl hx16 (fun ad97 cs98 hr99 hR100 => ?_))
  have hR100c := hR100
  obtain ⟨av101, lk102, rk103, rfl, ha104, hl105, hr106⟩ := hR100
  refine W2 (dj := 21) (bF h27) (OpT.field 0 ad97 ad97 tf61_0 rfl rfl ?_)
  refine W2 (dj := 21) (bF h27) (OpT.loadS ad97 (.int .i8 (x16.kind)) ta51 rfl (hr99.cell st8 (j := 0) rfl) ?_)
  refine W2 (dj := 21) (bF h27) (OpT.ieq .i8 (x16.kind) (2) rfl rfl ?_)
  refine W1 (OpT.pickF (.bool (decide (x16.kind = 2))) (bF h27) rfl ?_)
  refine Wnt ?_
  refine WC.condP (x16.kind = 2) rfl (fun h107 => ?_) (fun h107 => ?_)
  ·obtain ⟨adq2, csq2, hEq2, hrq2, hRq2⟩ := Rl.sl_el hb hx16
   have hRq2c := hRq2
   obtain ⟨av100041, lk100042, rk100043, rfl, ha100044, hl100045, hr100046⟩ := hRq2
   refine WC.draw 13 (fun jj vv => match jj with | 0 => vv = lf | 1 => vv = (pt b1 0) | 2 => vv = (.string y.pred) | 3 => vv = (pt b1 2) | 4 => vv = bv | 5 => vv = (ni i) | 6 => vv = (.pointer (some adq2)) | 7 => vv = (.pointer (some (adq2.add 1))) | 8 => vv = (.pointer (some (adq2.add 1))) | 9 => vv = (.string x16.atom.pred) | 10 => vv = (.int .i64 (n)) | 11 => vv = (.agg #[(.string y.pred), (.string x16.atom.pred), (.int .i8 (0)), (.int .i64 (n))]) | 12 => vv = (.slice (some ⟨(bk vv), 0, none⟩) 1 1) | _ => True) (fun jj vv => match jj with | 12 => [Blk (bk vv) 47 [(.string y.pred), (.string x16.atom.pred), (.int .i8 (0)), (.int .i64 (n))]] | _ => []) st8 fmix (by kernel_rfl) ((obS (obS (obS (obS (obS (obS (obS (obS (obS (obS (obS (obS (obS ob0 ?_) ?_) ?_) ?_) ?_) ?_) ?_) ?_) ?_) ?_) ?_) ?_) ?_)) ?_
   ·intro vals ρ w109 X hd h0 st108
    have e110 : ρ 5 = lf := (h0 5 rfl).trans hs11
    refine W1 (OpT.move lf e110 ?_)
    refine WL.nil ?_
    exact oneQ.mk ⟨rfl, st108⟩
   ·intro vals ρ w112 X hd h0 st111
    have e113 : ρ 2 = (pt b1 0) := (h0 2 rfl).trans hs13
    refine W1 (OpT.field 0 ⟨b1, 0, none⟩ ⟨b1, 0, none⟩ tf31_0 e113 rfl ?_)
    refine WL.nil ?_
    exact oneQ.mk ⟨rfl, st111⟩
   ·intro vals ρ w115 X hd h0 st114
    have e116 : ρ 31 = (pt b1 0) := ((hd 1 rfl).2 31 rfl).trans (hd 1 rfl).1
    refine W1 (OpT.loadS ⟨b1, 0, none⟩ (.string y.pred) ta9 e116 (st114.cellB (i := 1) rfl rfl) ?_)
    refine WL.nil ?_
    exact oneQ.mk ⟨rfl, st114⟩
   ·intro vals ρ w118 X hd h0 st117
    have e119 : ρ 2 = (pt b1 0) := (h0 2 rfl).trans hs13
    refine W1 (OpT.field 2 ⟨b1, 0, none⟩ ⟨b1, 2, none⟩ tf31_2 e119 rfl ?_)
    refine WL.nil ?_
    exact oneQ.mk ⟨rfl, st117⟩
   ·intro vals ρ w121 X hd h0 st120
    have e122 : ρ 33 = (pt b1 2) := ((hd 3 rfl).2 33 rfl).trans (hd 3 rfl).1
    refine W1 (OpT.loadS ⟨b1, 2, none⟩ bv ta29 e122 (st120.cellB (i := 1) rfl rfl) ?_)
    refine WL.nil ?_
    exact oneQ.mk ⟨rfl, st120⟩
   ·intro vals ρ w124 X hd h0 st123
    have e125 : ρ 6 = (ni i) := (h0 6 rfl).trans hs10
    refine W1 (OpT.move (ni i) e125 ?_)
    refine WL.nil ?_
    exact oneQ.mk ⟨rfl, st123⟩
   ·intro vals ρ w127 X hd h0 st126
    have e128 : ρ 34 = bv := ((hd 4 rfl).2 34 rfl).trans (hd 4 rfl).1
    have e129 : ρ 35 = (ni i) := ((hd 5 rfl).2 35 rfl).trans (hd 5 rfl).1
    refine W1 (OpT.idxE tu29 ts61 e128 .i64 (i) e129 hEq2 ?_)
    refine WL.nil ?_
    exact oneQ.mk ⟨rfl, st126⟩
   ·intro vals ρ w136 X hd h0 st135
    have e137 : ρ 36 = (.pointer (some adq2)) := ((hd 6 rfl).2 36 rfl).trans (hd 6 rfl).1
    refine W1 (OpT.field 1 adq2 (adq2.add 1) tf61_1 e137 rfl ?_)
    refine WL.nil ?_
    exact oneQ.mk ⟨rfl, st135⟩
   ·intro vals ρ w139 X hd h0 st138
    have e140 : ρ 37 = (.pointer (some (adq2.add 1))) := ((hd 7 rfl).2 37 rfl).trans (hd 7 rfl).1
    refine W1 (OpT.field 0 (adq2.add 1) (adq2.add 1) tf54_0 e140 rfl ?_)
    refine WL.nil ?_
    exact oneQ.mk ⟨rfl, st138⟩
   ·intro vals ρ w142 X hd h0 st141
    have e143 : ρ 38 = (.pointer (some (adq2.add 1))) := ((hd 8 rfl).2 38 rfl).trans (hd 8 rfl).1
    refine W1 (OpT.loadS (adq2.add 1) (.string x16.atom.pred) ta9 e143 (hrq2.cell st141 (j := 1) rfl) ?_)
    refine WL.nil ?_
    exact oneQ.mk ⟨rfl, st141⟩
   ·intro vals ρ w145 X hd h0 st144
    have e146 : ρ 1 = (.int .i64 (n)) := (h0 1 rfl).trans hs12
    refine W1 (OpT.move (.int .i64 (n)) e146 ?_)
    refine WL.nil ?_
    exact oneQ.mk ⟨rfl, st144⟩
   ·intro vals ρ w148 X hd h0 st147
    have e149 : ρ 32 = (.string y.pred) := ((hd 2 rfl).2 32 rfl).trans (hd 2 rfl).1
    have e150 : ρ 39 = (.string x16.atom.pred) := ((hd 9 rfl).2 39 rfl).trans (hd 9 rfl).1
    have e151 : ρ 40 = (.int .i64 (n)) := ((hd 10 rfl).2 40 rfl).trans (hd 10 rfl).1
    refine W1 (OpT.build [(0, (.string y.pred)), (1, (.string x16.atom.pred)), (3, (.int .i64 (n)))] [(.string y.pred), (.string x16.atom.pred), (.int .i8 (0)), (.int .i64 (n))] tz47 tp47 (mp3 e149 e150 e151) rfl ?_)
    refine WL.nil ?_
    exact oneQ.mk ⟨rfl, st147⟩
   ·intro vals ρ w153 X hd h0 st152
    have e154 : ρ 41 = (.agg #[(.string y.pred), (.string x16.atom.pred), (.int .i8 (0)), (.int .i64 (n))]) := ((hd 11 rfl).2 41 rfl).trans (hd 11 rfl).1
    refine W1 (OpT.buildSlice st152 [(0, (.agg #[(.string y.pred), (.string x16.atom.pred), (.int .i8 (0)), (.int .i64 (n))]))] [(.string y.pred), (.string x16.atom.pred), (.int .i8 (0)), (.int .i64 (n))] tu24 ts47 tz47 (mp1 e154) (by kernel_rfl) (by decide) (fun b155 w156 st157 => ?_))
    refine WL.nil ?_
    exact oneQ.mk ⟨rfl, st157⟩
   intro vals ρ160 w159 hv h0 st158
   replace st158 : St Z w0 w159 (Blk (bk (vals 12)) 47 [(.string y.pred), (.string x16.atom.pred), (.int .i8 (0)), (.int .i64 (n))] :: Row 47 4 lf (fld (snocF (fun x => (⟨y.pred, x.atom.pred, 0, n⟩ : Edg))) [] (y.body.take i)).length ((fld (snocF (fun x => (⟨y.pred, x.atom.pred, 0, n⟩ : Edg))) [] (y.body.take i)).flatMap ecs) :: Blk b1 31 [(.string y.pred), av, bv] :: L) := st158
   have e162 : ρ160 1 = (.int .i64 (n)) := (h0 1 rfl).trans hs12
   have e163 : ρ160 2 = (pt b1 0) := (h0 2 rfl).trans hs13
   have e164 : ρ160 5 = lf := (h0 5 rfl).trans hs11
   have e165 : ρ160 6 = (ni i) := (h0 6 rfl).trans hs10
   have e166 : ρ160 30 = lf := ((hv 0 rfl).2 30 rfl).trans (hv 0 rfl).1
   have e167 : ρ160 42 = (.slice (some ⟨(bk (vals 12)), 0, none⟩) 1 1) := ((hv 12 rfl).2 42 rfl).trans (hv 12 rfl).1
   clear hv h0
   generalize bk (vals 12) = b161 at *
   have st168 : St Z w0 w159 (Blk b161 47 [(.string y.pred), (.string x16.atom.pred), (.int .i8 (0)), (.int .i64 (n))] :: Row 47 4 lf (fld (snocF (fun x => (⟨y.pred, x.atom.pred, 0, n⟩ : Edg))) [] (y.body.take i)).length ((fld (snocF (fun x => (⟨y.pred, x.atom.pred, 0, n⟩ : Edg))) [] (y.body.take i)).flatMap ecs) :: Blk b1 31 [(.string y.pred), av, bv] :: L) := St.selT [Blk b161 47 [(.string y.pred), (.string x16.atom.pred), (.int .i8 (0)), (.int .i64 (n))], Row 47 4 lf (fld (snocF (fun x => (⟨y.pred, x.atom.pred, 0, n⟩ : Edg))) [] (y.body.take i)).length ((fld (snocF (fun x => (⟨y.pred, x.atom.pred, 0, n⟩ : Edg))) [] (y.body.take i)).flatMap ecs), Blk b1 31 [(.string y.pred), av, bv]] [0, 1, 2] rfl (by decide) st158
   refine W1 (OpT.append st168 1 tu24 ts47 tz47 rfl tb47 (by decide) e166 e167 rfl rfl (by omega) (by omega) (fun v169 w170 st171 hn172 => ?_))
   have o173 := st171.rowOne (i := 0) rfl
   have c174 := st171.rowCel (i := 0) rfl
   refine W1 (OpT.assign v169 rfl ?_)
   refine WL.nil ?_
   refine blkQ_n ?_
   refine thenQ_n ?_
   refine WC.region ?_
   refine W1 (OpT.move (ni i) e165 ?_)
   refine W1 (OpT.iadd .i64 (((i : Nat) : Int)) (1) (((i + 1 : Nat) : Int)) rfl rfl (wadd (a := i) (b := 1) (by omega)) ?_)
   refine W1 (OpT.assign (ni (i + 1)) rfl ?_)
   refine WL.nil ?_
   have st175 : St Z w0 w170 (Row 47 4 v169 (fld (snocF (fun x => (⟨y.pred, x.atom.pred, 0, n⟩ : Edg))) [] (y.body.take (i + 1))).length ((fld (snocF (fun x => (⟨y.pred, x.atom.pred, 0, n⟩ : Edg))) [] (y.body.take (i + 1))).flatMap ecs) :: Blk b1 31 [(.string y.pred), av, bv] :: L) := by rw [fld_in (snocF (fun x => (⟨y.pred, x.atom.pred, 0, n⟩ : Edg))) [] hx16 (by simp [isAtm, *])]; simp only [snocF, List.length_append, List.length_cons, List.length_nil, List.flatMap_append, List.flatMap_cons, List.flatMap_nil, List.append_nil, List.map_append, List.map_cons, List.map_nil]; exact st171
   exact loopQ_n _ (by omega) ⟨i + 1, v169, rfl, by omega, rfl, rfl, e162, e163, st175⟩
  refine WC.skip ?_
  refine blkQ_n ?_
  refine thenQ_n ?_
  refine WC.region ?_
  refine W1 (OpT.move (ni i) hs10 ?_)
  refine W1 (OpT.iadd .i64 (((i : Nat) : Int)) (1) (((i + 1 : Nat) : Int)) rfl rfl (wadd (a := i) (b := 1) (by omega)) ?_)
  refine W1 (OpT.assign (ni (i + 1)) rfl ?_)
  refine WL.nil ?_
  have st176 : St Z w0 w7 (Row 47 4 lf (fld (snocF (fun x => (⟨y.pred, x.atom.pred, 0, n⟩ : Edg))) [] (y.body.take (i + 1))).length ((fld (snocF (fun x => (⟨y.pred, x.atom.pred, 0, n⟩ : Edg))) [] (y.body.take (i + 1))).flatMap ecs) :: Blk b1 31 [(.string y.pred), av, bv] :: L) := by rw [fld_out (snocF (fun x => (⟨y.pred, x.atom.pred, 0, n⟩ : Edg))) [] hx16 (by simp [isAtm, *])]; exact st8
  exact loopQ_n _ (by omega) ⟨i + 1, lf, rfl, by omega, hs11, rfl, hs12, hs13, st176⟩
 refine WC.exit ?_
 refine thenQ_x ?_
 refine loopQ_x ?_
 refine blkQ_hit ?_
 refine thenQ_n ?_
 refine Wsr ?_
 refine W1 (OpT.move lf hs11 ?_)
 refine W1 (OpT.assign lf rfl ?_)
 refine Wnt ?_
 refine WC.ret <| retQ.one lf rfl ?_
 have stf : St Z w0 w7 (Row 47 4 lf (fld (snocF (fun x => (⟨y.pred, x.atom.pred, 0, n⟩ : Edg))) [] (y.body.take i)).length ((fld (snocF (fun x => (⟨y.pred, x.atom.pred, 0, n⟩ : Edg))) [] (y.body.take i)).flatMap ecs) :: L) := (St.selT [Row 47 4 lf (fld (snocF (fun x => (⟨y.pred, x.atom.pred, 0, n⟩ : Edg))) [] (y.body.take i)).length ((fld (snocF (fun x => (⟨y.pred, x.atom.pred, 0, n⟩ : Edg))) [] (y.body.take i)).flatMap ecs), Blk b1 31 [(.string y.pred), av, bv]] [0] rfl (by decide) st8)
 rw [show y.body.take i = y.body from List.take_of_length_le (by omega), snocF_eq] at stf
 exact ⟨_, rfl, stf⟩

theorem lnots_spec {Z : Nat → Prop} {w0 w : World} {L : List Res} (st : St Z w0 w L) (y : Rul) (av bv : Value) (ha : rAgr.sl Z w0 av y.head) (hb : rLtr.sl Z w0 bv y.body) (hs : y.body.length < 1048576) : Calls Try.prog 8 #[(.agg #[(.string y.pred), av, bv])] w (Ret fun v w' => St Z w0 w' (Row 4 1 v ((y.body.filter isAtm).map (fun x => decide (x.kind = 2))).length (((y.body.filter isAtm).map (fun x => decide (x.kind = 2))).map Value.bool) :: L)) := by
 have hbl := Rl.sl_le hb
 replace st := st.rowNil 4 1
 refine calls_of_WC (m := 39) (rs := [.tmp 2]) Try.func8 rfl rfl rfl rfl ?_
 refine Wsr ?_
 refine W1 (OpT.box st (.agg #[(.string y.pred), av, bv]) [(.string y.pred), av, bv] rfl rfl (fun b1 w2 st3 => ?_))
 refine W1 (OpT.assign vn rfl ?_)
 refine Wns ?_
 refine W1 (OpT.assign vn rfl ?_)
 refine Wnt ?_
 refine WC.seq ?_
 refine Wsr ?_
 refine W1 (OpT.assign (ii 0) rfl ?_)
 refine Wnt ?_
 refine WC.block ?_
 have st4 : St Z w0 w2 (Row 4 1 vn 0 [] :: Blk b1 31 [(.string y.pred), av, bv] :: L) := St.selT [Blk b1 31 [(.string y.pred), av, bv], Row 4 1 vn 0 []] [1, 0] rfl (by decide) st3
 refine WC.loop (fun m ρ wz => ∃ (i : Nat), ∃ (lf : Value), m = y.body.length - i ∧ i ≤ y.body.length ∧ ρ 3 = lf ∧ ρ 4 = (ni i) ∧ ρ 1 = (pt b1 0) ∧ St Z w0 wz (Row 4 1 lf (fld (snocF (fun x => decide (x.kind = 2))) [] (y.body.take i)).length ((fld (snocF (fun x => decide (x.kind = 2))) [] (y.body.take i)).map Value.bool) :: Blk b1 31 [(.string y.pred), av, bv] :: L)) _ ⟨0, vn, rfl, by omega, rfl, rfl, rfl, st4⟩ ?_
 rintro m5 ρ6 w7 ⟨i, lf, hm13, hp9, hs11, hs10, hs12, st8⟩
 have olf := st8.rowOne (i := 0) rfl
 have clf := st8.rowCel (i := 0) rfl
 have hal := snocF_len (fun x => decide (x.kind = 2)) y.body i
 refine WC.seq ?_
 refine Wsr ?_
 refine W1 (OpT.move (ni i) hs10 ?_)
 refine W1 (OpT.field 2 ⟨b1, 0, none⟩ ⟨b1, 2, none⟩ tf31_2 hs12 rfl ?_)
 refine W1 (OpT.loadS ⟨b1, 2, none⟩ bv ta29 rfl (st8.cellB (i := 1) rfl rfl) ?_)
 refine W1 (OpT.lenR rfl tu29 hb rfl ?_)
 refine W1 (OpT.ilt .i64 (((i : Nat) : Int)) (((y.body.length : Nat) : Int)) rfl rfl ?_)
 refine Wnt ?_
 refine WC.condP (((i : Nat) : Int) < ((y.body.length : Nat) : Int)) rfl (fun h14 => ?_) (fun h14 => ?_)
 ·refine WC.skip ?_
  refine thenQ_n ?_
  refine WC.seq ?_
  refine WC.block ?_
  refine Wsr ?_
  refine W1 (OpT.field 2 ⟨b1, 0, none⟩ ⟨b1, 2, none⟩ tf31_2 hs12 rfl ?_)
  refine W1 (OpT.loadS ⟨b1, 2, none⟩ bv ta29 rfl (st8.cellB (i := 1) rfl rfl) ?_)
  refine W1 (OpT.move (ni i) hs10 ?_)
  obtain ⟨x15, hx15⟩ : ∃ x, (y.body)[i]? = some x := ⟨_, List.getElem?_eq_getElem (by omega)⟩
  refine W1 (OpT.idxX tu29 ts61 hb rfl .i64 (i) rfl hx15 (fun ad16 cs17 hr18 hR19 => ?_))
  have hR19c := hR19
  obtain ⟨av20, lk21, rk22, rfl, ha23, hl24, hr25⟩ := hR19
  refine W1 (OpT.field 0 ad16 ad16 tf61_0 rfl rfl ?_)
  refine W1 (OpT.loadS ad16 (.int .i8 (x15.kind)) ta51 rfl (hr18.cell st8 (j := 0) rfl) ?_)
  refine W1 (OpT.ieq .i8 (x15.kind) (1) rfl rfl ?_)
  refine W1 (OpT.move (.bool (decide (x15.kind = 1))) rfl ?_)
  by_cases h26 : x15.kind = 1
  ·refine WL.pass (dj := 19) (c := true) rfl rfl rfl (bT h26) rfl ?_
   refine WL.pass (dj := 19) (c := true) rfl rfl rfl (bT h26) rfl ?_
   refine WL.pass (dj := 19) (c := true) rfl rfl rfl (bT h26) rfl ?_
   refine WL.pass (dj := 19) (c := true) rfl rfl rfl (bT h26) rfl ?_
   refine WL.pass (dj := 19) (c := true) rfl rfl rfl (bT h26) rfl ?_
   refine WL.pass (dj := 19) (c := true) rfl rfl rfl (bT h26) rfl ?_
   refine WL.pass (dj := 19) (c := true) rfl rfl rfl (bT h26) rfl ?_
   refine W1 (OpT.pickT (.bool true) (bT h26) rfl ?_)
   refine Wnt ?_
   refine WC.condT rfl ?_
   refine WC.region ?_
   refine W1 (OpT.move lf hs11 ?_)
   refine W1 (OpT.field 2 ⟨b1, 0, none⟩ ⟨b1, 2, none⟩ tf31_2 hs12 rfl ?_)
   refine W1 (OpT.loadS ⟨b1, 2, none⟩ bv ta29 rfl (st8.cellB (i := 1) rfl rfl) ?_)
   refine W1 (OpT.move (ni i) hs10 ?_)
   refine W1 (OpT.idxX tu29 ts61 hb rfl .i64 (i) rfl hx15 (fun ad28 cs29 hr30 hR31 => ?_))
   have hR31c := hR31
   obtain ⟨av32, lk33, rk34, rfl, ha35, hl36, hr37⟩ := hR31
   refine W1 (OpT.field 0 ad28 ad28 tf61_0 rfl rfl ?_)
   refine W1 (OpT.loadS ad28 (.int .i8 (x15.kind)) ta51 rfl (hr30.cell st8 (j := 0) rfl) ?_)
   refine W1 (OpT.ieq .i8 (x15.kind) (2) rfl rfl ?_)
   refine W1 (OpT.buildSlice st8 [(0, (.bool (decide (x15.kind = 2))))] [(.bool (decide (x15.kind = 2)))] tu43 ts4 tz4 (mp1 rfl) (by kernel_rfl) (by decide) (fun b38 w39 st40 => ?_))
   have st41 : St Z w0 w39 (Blk b38 4 [(.bool (decide (x15.kind = 2)))] :: Row 4 1 lf (fld (snocF (fun x => decide (x.kind = 2))) [] (y.body.take i)).length ((fld (snocF (fun x => decide (x.kind = 2))) [] (y.body.take i)).map Value.bool) :: Blk b1 31 [(.string y.pred), av, bv] :: L) := St.selT [Blk b38 4 [(.bool (decide (x15.kind = 2)))], Row 4 1 lf (fld (snocF (fun x => decide (x.kind = 2))) [] (y.body.take i)).length ((fld (snocF (fun x => decide (x.kind = 2))) [] (y.body.take i)).map Value.bool), Blk b1 31 [(.string y.pred), av, bv]] [0, 1, 2] rfl (by decide) st40
   refine W1 (OpT.append st41 1 tu43 ts4 tz4 rfl tb4 (by decide) rfl rfl rfl rfl (by omega) (by omega) (fun v42 w43 st44 hn45 => ?_))
   have o46 := st44.rowOne (i := 0) rfl
   have c47 := st44.rowCel (i := 0) rfl
   refine W1 (OpT.assign v42 rfl ?_)
   refine WL.nil ?_
   refine blkQ_n ?_
   refine thenQ_n ?_
   refine WC.region ?_
   refine W1 (OpT.move (ni i) hs10 ?_)
   refine W1 (OpT.iadd .i64 (((i : Nat) : Int)) (1) (((i + 1 : Nat) : Int)) rfl rfl (wadd (a := i) (b := 1) (by omega)) ?_)
   refine W1 (OpT.assign (ni (i + 1)) rfl ?_)
   refine WL.nil ?_
   have st48 : St Z w0 w43 (Row 4 1 v42 (fld (snocF (fun x => decide (x.kind = 2))) [] (y.body.take (i + 1))).length ((fld (snocF (fun x => decide (x.kind = 2))) [] (y.body.take (i + 1))).map Value.bool) :: Blk b1 31 [(.string y.pred), av, bv] :: L) := by rw [fld_in (snocF (fun x => decide (x.kind = 2))) [] hx15 (by simp [isAtm, *])]; simp only [snocF, List.length_append, List.length_cons, List.length_nil, List.flatMap_append, List.flatMap_cons, List.flatMap_nil, List.append_nil, List.map_append, List.map_cons, List.map_nil]; exact st44
   exact loopQ_n _ (by omega) ⟨i + 1, v42, rfl, by omega, rfl, rfl, hs12, st48⟩
  refine W2 (dj := 19) (bF h26) (OpT.field 2 ⟨b1, 0, none⟩ ⟨b1, 2, none⟩ tf31_2 hs12 rfl ?_)
  refine W2 (dj := 19) (bF h26) (OpT.loadS ⟨b1, 2, none⟩ bv ta29 rfl (st8.cellB (i := 1) rfl rfl) ?_)
  refine W2 (dj := 19) (bF h26) (OpT.move (ni i) hs10 ?_)
  refine W2 (dj := 19) (bF h26) (OpT.idxX tu29 ts61 hb rfl .i64 (i) rfl hx15 (fun ad50 cs51 hr52 hR53 => ?_))
  have hR53c := hR53
  obtain ⟨av54, lk55, rk56, rfl, ha57, hl58, hr59⟩ := hR53
  refine W2 (dj := 19) (bF h26) (OpT.field 0 ad50 ad50 tf61_0 rfl rfl ?_)
  refine W2 (dj := 19) (bF h26) (OpT.loadS ad50 (.int .i8 (x15.kind)) ta51 rfl (hr52.cell st8 (j := 0) rfl) ?_)
  refine W2 (dj := 19) (bF h26) (OpT.ieq .i8 (x15.kind) (2) rfl rfl ?_)
  refine W1 (OpT.pickF (.bool (decide (x15.kind = 2))) (bF h26) rfl ?_)
  refine Wnt ?_
  refine WC.condP (x15.kind = 2) rfl (fun h60 => ?_) (fun h60 => ?_)
  ·refine WC.region ?_
   refine W1 (OpT.move lf hs11 ?_)
   refine W1 (OpT.field 2 ⟨b1, 0, none⟩ ⟨b1, 2, none⟩ tf31_2 hs12 rfl ?_)
   refine W1 (OpT.loadS ⟨b1, 2, none⟩ bv ta29 rfl (st8.cellB (i := 1) rfl rfl) ?_)
   refine W1 (OpT.move (ni i) hs10 ?_)
   refine W1 (OpT.idxX tu29 ts61 hb rfl .i64 (i) rfl hx15 (fun ad62 cs63 hr64 hR65 => ?_))
   have hR65c := hR65
   obtain ⟨av66, lk67, rk68, rfl, ha69, hl70, hr71⟩ := hR65
   refine W1 (OpT.field 0 ad62 ad62 tf61_0 rfl rfl ?_)
   refine W1 (OpT.loadS ad62 (.int .i8 (x15.kind)) ta51 rfl (hr64.cell st8 (j := 0) rfl) ?_)
   refine W1 (OpT.ieq .i8 (x15.kind) (2) rfl rfl ?_)
   refine W1 (OpT.buildSlice st8 [(0, (.bool (decide (x15.kind = 2))))] [(.bool (decide (x15.kind = 2)))] tu43 ts4 tz4 (mp1 rfl) (by kernel_rfl) (by decide) (fun b72 w73 st74 => ?_))
   have st75 : St Z w0 w73 (Blk b72 4 [(.bool (decide (x15.kind = 2)))] :: Row 4 1 lf (fld (snocF (fun x => decide (x.kind = 2))) [] (y.body.take i)).length ((fld (snocF (fun x => decide (x.kind = 2))) [] (y.body.take i)).map Value.bool) :: Blk b1 31 [(.string y.pred), av, bv] :: L) := St.selT [Blk b72 4 [(.bool (decide (x15.kind = 2)))], Row 4 1 lf (fld (snocF (fun x => decide (x.kind = 2))) [] (y.body.take i)).length ((fld (snocF (fun x => decide (x.kind = 2))) [] (y.body.take i)).map Value.bool), Blk b1 31 [(.string y.pred), av, bv]] [0, 1, 2] rfl (by decide) st74
   refine W1 (OpT.append st75 1 tu43 ts4 tz4 rfl tb4 (by decide) rfl rfl rfl rfl (by omega) (by omega) (fun v76 w77 st78 hn79 => ?_))
   have o80 := st78.rowOne (i := 0) rfl
   have c81 := st78.rowCel (i := 0) rfl
   refine W1 (OpT.assign v76 rfl ?_)
   refine WL.nil ?_
   refine blkQ_n ?_
   refine thenQ_n ?_
   refine WC.region ?_
   refine W1 (OpT.move (ni i) hs10 ?_)
   refine W1 (OpT.iadd .i64 (((i : Nat) : Int)) (1) (((i + 1 : Nat) : Int)) rfl rfl (wadd (a := i) (b := 1) (by omega)) ?_)
   refine W1 (OpT.assign (ni (i + 1)) rfl ?_)
   refine WL.nil ?_
   have st82 : St Z w0 w77 (Row 4 1 v76 (fld (snocF (fun x => decide (x.kind = 2))) [] (y.body.take (i + 1))).length ((fld (snocF (fun x => decide (x.kind = 2))) [] (y.body.take (i + 1))).map Value.bool) :: Blk b1 31 [(.string y.pred), av, bv] :: L) := by rw [fld_in (snocF (fun x => decide (x.kind = 2))) [] hx15 (by simp [isAtm, *])]; simp only [snocF, List.length_append, List.length_cons, List.length_nil, List.flatMap_append, List.flatMap_cons, List.flatMap_nil, List.append_nil, List.map_append, List.map_cons, List.map_nil]; exact st78
   exact loopQ_n _ (by omega) ⟨i + 1, v76, rfl, by omega, rfl, rfl, hs12, st82⟩
  refine WC.skip ?_
  refine blkQ_n ?_
  refine thenQ_n ?_
  refine WC.region ?_
  refine W1 (OpT.move (ni i) hs10 ?_)
  refine W1 (OpT.iadd .i64 (((i : Nat) : Int)) (1) (((i + 1 : Nat) : Int)) rfl rfl (wadd (a := i) (b := 1) (by omega)) ?_)
  refine W1 (OpT.assign (ni (i + 1)) rfl ?_)
  refine WL.nil ?_
  have st83 : St Z w0 w7 (Row 4 1 lf (fld (snocF (fun x => decide (x.kind = 2))) [] (y.body.take (i + 1))).length ((fld (snocF (fun x => decide (x.kind = 2))) [] (y.body.take (i + 1))).map Value.bool) :: Blk b1 31 [(.string y.pred), av, bv] :: L) := by rw [fld_out (snocF (fun x => decide (x.kind = 2))) [] hx15 (by simp [isAtm, *])]; exact st8
  exact loopQ_n _ (by omega) ⟨i + 1, lf, rfl, by omega, hs11, rfl, hs12, st83⟩
 refine WC.exit ?_
 refine thenQ_x ?_
 refine loopQ_x ?_
 refine blkQ_hit ?_
 refine thenQ_n ?_
 refine Wsr ?_
 refine W1 (OpT.move lf hs11 ?_)
 refine W1 (OpT.assign lf rfl ?_)
 refine Wnt ?_
 refine WC.ret <| retQ.one lf rfl ?_
 have stf : St Z w0 w7 (Row 4 1 lf (fld (snocF (fun x => decide (x.kind = 2))) [] (y.body.take i)).length ((fld (snocF (fun x => decide (x.kind = 2))) [] (y.body.take i)).map Value.bool) :: L) := (St.selT [Row 4 1 lf (fld (snocF (fun x => decide (x.kind = 2))) [] (y.body.take i)).length ((fld (snocF (fun x => decide (x.kind = 2))) [] (y.body.take i)).map Value.bool), Blk b1 31 [(.string y.pred), av, bv]] [0] rfl (by decide) st8)
 rw [show y.body.take i = y.body from List.take_of_length_le (by omega), snocF_eq] at stf
 exact ⟨_, rfl, stf⟩

end Go.Ped
