/- The edges of a program. -/
import Derived.Test.YtojkakpkmfopbaaEngM
import Derived.Test.YtojkakpkmfopbaaF17
set_option linter.unusedVariables false
set_option maxRecDepth 20000
namespace Go.Ped
open Go Go.Eng Go.RowKit Go.Proofs

theorem tz24 : zeroB Try.prog 24 = some (.slice none 0 0) := by kernel_rfl
theorem tf27_0 : fieldB Try.prog 27 0 = some 0 := by kernel_rfl
theorem ta22 : aggB Try.prog 22 = some false := by kernel_rfl
theorem ts3 : sizeB Try.prog 3 = some 1 := by kernel_rfl
theorem tz45 : zeroB Try.prog 45 = some (.int .i8 (0)) := by kernel_rfl
theorem cal11 : CallOk Try.prog 11 := ⟨⟨Try.f11, Try.func11, rfl, by decide⟩⟩
theorem cal13 : CallOk Try.prog 13 := ⟨⟨Try.f13, Try.func13, rfl, by decide⟩⟩
theorem cal12 : CallOk Try.prog 12 := ⟨⟨Try.f12, Try.func12, rfl, by decide⟩⟩
theorem cal6 : CallOk Try.prog 6 := ⟨⟨Try.f6, Try.func6, rfl, by decide⟩⟩
theorem fld_snoc {α : Type} (g : Ltr → α) (xs : List Ltr) (b : List α) : fld (snocF g) b xs = b ++ (xs.filter isAtm).map g := by
  have : ∀ (ys : List Ltr) (b : List α), ys.foldl (snocF g) b = b ++ ys.map g := by
    intro ys
    induction ys with
    | nil => intro b; simp
    | cons y ys ih => intro b; simp [ih, snocF]
  exact this _ b
theorem fld_len {α : Type} (g : Ltr → α) (xs : List Ltr) (b : List α) : (fld (snocF g) b xs).length ≤ b.length + xs.length := by
  rw [fld_snoc, List.length_append, List.length_map]
  have := List.length_filter_le isAtm xs; omega
def kindOf (x : Rul) : Int := if aggsB x then 3 else if makesB x then 4 else 1
def edgesR (x : Rul) (i : Nat) : List Edg := (x.body.filter isAtm).map (edgOf x.pred (kindOf x) i)
def edgesF (rs : List Rul) : List Edg := rs.zipIdx.flatMap fun p => edgesR p.1 p.2
theorem edges_step {rs : List Rul} {i : Nat} {x : Rul} (hx : rs[i]? = some x) : edgesF (rs.take (i + 1)) = edgesF (rs.take i) ++ edgesR x i := by
  have hi := (List.getElem?_eq_some_iff.1 hx).1
  rw [List.take_add_one, hx, edgesF, Option.toList, List.zipIdx_append, List.flatMap_append, List.length_take, Nat.min_eq_left (by omega)]
  simp [edgesF]
theorem edges_fld {rs : List Rul} {i : Nat} {x : Rul} (hx : rs[i]? = some x) {kd : Int} (hk : kindOf x = kd) : fld (snocF (edgOf x.pred kd i)) (edgesF (rs.take i)) x.body = edgesF (rs.take (i + 1)) := by
  rw [edges_step hx, fld_snoc, edgesR, hk]
theorem edgesF_len (rs : List Rul) : (edgesF rs).length ≤ (rs.flatMap Rul.body).length := by
  have : ∀ (rs : List Rul) (k : Nat), ((rs.zipIdx k).flatMap fun p => edgesR p.1 p.2).length ≤ (rs.flatMap Rul.body).length := by
    intro rs
    induction rs with
    | nil => intro k; simp
    | cons r rs ih =>
      intro k
      have h := ih (k + 1)
      have h2 : (edgesR r k).length ≤ r.body.length := by rw [edgesR, List.length_map]; exact List.length_filter_le _ _
      simp only [List.zipIdx_cons, List.flatMap_cons, List.length_append]; omega
  exact this rs 0
/-- Programs that are not too large. -/
structure Bnd (rs : List Rul) : Prop where
  t : ∀ r ∈ rs, (rulT r).length < 536870912
  b : (rs.flatMap Rul.body).length < 1048576
theorem Bnd.at {rs : List Rul} (h : Bnd rs) {i : Nat} {x : Rul} (hx : rs[i]? = some x) : (rulT x).length < 536870912 ∧ ((rs.take i).flatMap Rul.body).length + x.body.length < 1048576 :=
  ⟨h.t x (List.mem_of_getElem? hx), Nat.lt_of_le_of_lt (flat_at Rul.body hx) h.b⟩
theorem Edges_spec {Z : Nat → Prop} {w0 w : World} {L : List Res} (st : St Z w0 w L) (rv : Value) (rs : List Rul) (hr : rRul.sl Z w0 rv rs) (HB : Bnd rs) : Calls Try.prog 5 #[(.agg #[rv])] w (Ret fun r w' => r.oneCell' = true ∧ r.cells = #[r] ∧ St Z w0 w' (Row 47 4 r (edgesF rs).length ((edgesF rs).flatMap ecs) :: L)) := by
 have hal0 := Rl.sl_le hr
 refine calls_of_WC (m := 25) (rs := [.tmp 2]) Try.func5 rfl rfl rfl rfl ?_
 refine Wsr ?_
 refine W1 (OpT.box st (.agg #[rv]) [rv] rfl rfl (fun b1 w2 st3 => ?_))
 refine W1 (OpT.assign vn rfl ?_)
 refine Wns ?_
 refine W1 (OpT.alloc st3 vn [vn] tz24 rfl (fun b4 w5 st6 => ?_))
 refine Wnt ?_
 refine WC.seq ?_
 refine Wsr ?_
 refine W1 (OpT.field 0 ⟨b1, 0, none⟩ ⟨b1, 0, none⟩ tf27_0 rfl rfl ?_)
 refine W1 (OpT.loadS ⟨b1, 0, none⟩ rv ta22 rfl (st6.cellB (i := 1) rfl rfl) ?_)
 refine W1 (OpT.lenR rfl tu22 hr rfl ?_)
 refine W1 (OpT.move (ii 0) rfl ?_)
 refine Wnt ?_
 refine WC.block ?_
 obtain ⟨ob, rfl⟩ : ∃ x, x = b4 := ⟨_, rfl⟩
 have st7 : St Z w0 w5 (Row 47 4 vn ([] : List Edg).length (([] : List Edg).flatMap ecs) :: Blk ob 24 [vn] :: Blk b1 27 [rv] :: L) := st6.rowNil 47 4
 have st8 : St Z w0 w5 (Blk ob 24 [vn] :: Row 47 4 vn ([] : List Edg).length (([] : List Edg).flatMap ecs) :: L) := St.selT [Row 47 4 vn ([] : List Edg).length (([] : List Edg).flatMap ecs), Blk ob 24 [vn], Blk b1 27 [rv]] [1, 0] rfl (by decide) st7
 refine WC.loop (fun m ρ wz => ∃ (i : Nat), ∃ (lv2 : Value), m = rs.length - i ∧ i ≤ rs.length ∧ ρ 10 = (ni i) ∧ ρ 3 = (pt ob 0) ∧ ρ 8 = rv ∧ ρ 9 = (ni (rs.length)) ∧ St Z w0 wz (Blk ob 24 [lv2] :: Row 47 4 lv2 (edgesF (rs.take i)).length ((edgesF (rs.take i)).flatMap ecs) :: L)) _ ⟨0, vn, rfl, by omega, rfl, rfl, rfl, rfl, st8⟩ ?_
 rintro m9 ρ10 w11 ⟨i, lv2, hm18, hp13, hs14, hs15, hs16, hs17, st12⟩
 have olv2 := st12.rowOne (i := 1) rfl
 have clv2 := st12.rowCel (i := 1) rfl
 refine Wsr ?_
 refine W1 (OpT.ilt .i64 (((i : Nat) : Int)) (((rs.length : Nat) : Int)) hs14 hs17 ?_)
 refine Wnt ?_
 refine WC.seq ?_
 refine WC.condP (((i : Nat) : Int) < ((rs.length : Nat) : Int)) rfl (fun h19 => ?_) (fun h19 => ?_)
 ·refine WC.skip ?_
  refine thenQ_n ?_
  refine WC.seq ?_
  refine WC.block ?_
  refine Wsr ?_
  refine W1 (OpT.move (ni i) hs14 ?_)
  obtain ⟨x20, hx20⟩ : ∃ x, (rs)[i]? = some x := ⟨_, List.getElem?_eq_getElem (by omega)⟩
  refine W1 (OpT.idxX tu22 ts31 hr hs16 .i64 (i) hs14 hx20 (fun ad21 cs22 hr23 hR24 => ?_))
  have hR24c := hR24
  obtain ⟨hv25, bv26, rfl, hh27, hb28⟩ := hR24
  refine W1 (OpT.loadA ad21 3 [(.string x20.pred), hv25, bv26] ta31 ts31 rfl ((hr23.at st12).part 0 3) rfl ?_)
  refine W1 (OpT.alloc st12 (ii 0) [(ii 0)] tz3 rfl (fun b29 w30 st31 => ?_))
  refine W1 (OpT.alloc st31 (.agg #[ve, vn, vn]) [ve, vn, vn] tz31 rfl (fun b32 w33 st34 => ?_))
  refine WL.stepN (OpT.storeS st34 1 (ni i) rfl ts3 rfl rfl rfl rfl rfl (fun w35 st36 => ?_))
  refine WL.stepN (OpT.storeA st36 0 3 [(.string x20.pred), hv25, bv26] rfl ts31 rfl rfl (aC rfl (aC (Rl.sl_one hh27) (aC (Rl.sl_one hb28) aN))) rfl rfl (fun w37 st38 => ?_))
  refine Wnt ?_
  refine WC.seq ?_
  have hbx := HB.at hx20
  refine WC.region ?_
  refine W1 (OpT.alloc st38 (.int .i8 (0)) [(.int .i8 (0))] tz45 rfl (fun b39 w40 st41 => ?_))
  refine WL.stepN (OpT.storeS st41 0 (.int .i8 (1)) rfl ts45 rfl rfl rfl rfl rfl (fun w42 st43 => ?_))
  refine Wnt ?_
  refine WC.seq ?_
  refine Wsr ?_
  refine W1 (OpT.loadA ⟨b32, 0, none⟩ 3 [(.string x20.pred), hv25, bv26] ta31 ts31 rfl ((st43.rowB (i := 1) rfl).part 0 3) rfl ?_)
  refine W1 (OpT.callS cal11 [] [] [(.agg #[(.string x20.pred), hv25, bv26])] rfl (ca1 rfl) (aggregates_spec st43 x20 _ _ hh27 hb28) ?_)
  rintro v44 w45 ⟨rfl, st46⟩
  refine Wnt ?_
  refine WC.cond ((aggsB x20)) rfl (fun h47 => ?_) (fun h47 => ?_)
  ·refine WC.region ?_
   refine WL.stepN (OpT.storeS st46 0 (.int .i8 (3)) rfl ts45 rfl rfl rfl rfl rfl (fun w48 st49 => ?_))
   refine Wnr ?_
   refine W1 (OpT.field 2 ⟨b32, 0, none⟩ ⟨b32, 2, none⟩ tf31_2 rfl rfl ?_)
   refine W1 (OpT.loadS ⟨b32, 2, none⟩ bv26 ta29 rfl (st49.cellB (i := 1) rfl rfl) ?_)
   refine W1 (OpT.makeFunc [] [(pt b32 0), (pt b39 0), (pt b29 0), (pt ob 0)] mk0 (mk4 rfl rfl rfl hs15) ?_)
   have st50 : St Z w0 w48 (EJ b32 b39 b29 ob x20.pred hv25 bv26 3 ((i : Nat) : Int) (edgesF (rs.take i)) lv2 ++ L) := (St.selT [Blk b39 45 [(.int .i8 (3))], Blk b32 31 [(.string x20.pred), hv25, bv26], Blk b29 3 [(ni i)], Blk ob 24 [lv2], Row 47 4 lv2 (edgesF (rs.take i)).length ((edgesF (rs.take i)).flatMap ecs)] [1, 0, 2, 3, 4] rfl (by decide) st49)
   have hel := edgesF_len (rs.take i)
   refine W1 (OpT.callS cal12 [] [] [bv26, (.func (.func 13) #[] #[(pt b32 0), (pt b39 0), (pt b29 0), (pt ob 0)])] rfl (ca2 rfl rfl) (atoms_spec (fun es lv => EJ b32 b39 b29 ob x20.pred hv25 bv26 3 ((i : Nat) : Int) es lv) (snocF (edgOf x20.pred 3 ((i : Nat) : Int))) (edgesF (rs.take i)) lv2 st50 bv26 x20.body hb28 13 cal13 [(pt b32 0), (pt b39 0), (pt b29 0), (pt ob 0)] (fun L2 w2 j z lv2 hz hza cs2 hR st2 => by obtain ⟨a2, l2, r2, rfl, q1, q2, q3⟩ := hR; exact Edges1_spec hh27 hb28 st2 (by have h1 := fld_len (edgOf x20.pred 3 ((i : Nat) : Int)) (x20.body.take j) (edgesF (rs.take i)); have h2 := (List.getElem?_eq_some_iff.1 hz).1; rw [List.length_take] at h1; omega) z a2 l2 r2 q1 q2 q3)) ?_)
   rintro v54 w55 ⟨rfl, lv51, st56⟩
   replace st56 : St Z w0 w55 (Blk b32 31 [(.string x20.pred), hv25, bv26] :: Blk b39 45 [(.int .i8 (3))] :: Blk b29 3 [(ni i)] :: Blk ob 24 [lv51] :: Row 47 4 lv51 (fld (snocF (edgOf x20.pred 3 ((i : Nat) : Int))) (edgesF (rs.take i)) x20.body).length ((fld (snocF (edgOf x20.pred 3 ((i : Nat) : Int))) (edgesF (rs.take i)) x20.body).flatMap ecs) :: L) := st56
   have o52 := st56.rowOne (i := 4) rfl
   have c53 := st56.rowCel (i := 4) rfl
   refine WL.nil ?_
   refine blkQ_n ?_
   refine thenQ_n ?_
   refine WC.region ?_
   refine W1 (OpT.iadd .i64 (((i : Nat) : Int)) (1) (((i + 1 : Nat) : Int)) hs14 rfl (wadd (a := i) (b := 1) (by omega)) ?_)
   refine W1 (OpT.move (ni (i + 1)) rfl ?_)
   refine WL.nil ?_
   have e58 := edges_fld hx20 (show kindOf x20 = 3 from by simp only [kindOf]; simp [h47])
   have st57 : St Z w0 w55 (Blk ob 24 [lv51] :: Row 47 4 lv51 (edgesF (rs.take (i + 1))).length ((edgesF (rs.take (i + 1))).flatMap ecs) :: L) := by rw [← e58]; exact (St.selT [Blk b32 31 [(.string x20.pred), hv25, bv26], Blk b39 45 [(.int .i8 (3))], Blk b29 3 [(ni i)], Blk ob 24 [lv51], Row 47 4 lv51 (fld (snocF (edgOf x20.pred 3 ((i : Nat) : Int))) (edgesF (rs.take i)) x20.body).length ((fld (snocF (edgOf x20.pred 3 ((i : Nat) : Int))) (edgesF (rs.take i)) x20.body).flatMap ecs)] [3, 4] rfl (by decide) st56)
   exact loopQ_n _ (by omega) ⟨i + 1, lv51, rfl, by omega, rfl, hs15, hs16, hs17, st57⟩
  refine Wsr ?_
  refine W1 (OpT.loadA ⟨b32, 0, none⟩ 3 [(.string x20.pred), hv25, bv26] ta31 ts31 rfl ((st46.rowB (i := 1) rfl).part 0 3) rfl ?_)
  refine W1 (OpT.callS cal6 [] [] [(.agg #[(.string x20.pred), hv25, bv26])] rfl (ca1 rfl) (Makes_spec st46 x20 (by omega) _ _ hh27 hb28) ?_)
  rintro v59 w60 ⟨rfl, st61⟩
  refine Wnt ?_
  refine WC.cond ((makesB x20)) rfl (fun h62 => ?_) (fun h62 => ?_)
  ·refine WC.region ?_
   refine WL.stepN (OpT.storeS st61 0 (.int .i8 (4)) rfl ts45 rfl rfl rfl rfl rfl (fun w63 st64 => ?_))
   refine Wnr ?_
   refine W1 (OpT.field 2 ⟨b32, 0, none⟩ ⟨b32, 2, none⟩ tf31_2 rfl rfl ?_)
   refine W1 (OpT.loadS ⟨b32, 2, none⟩ bv26 ta29 rfl (st64.cellB (i := 1) rfl rfl) ?_)
   refine W1 (OpT.makeFunc [] [(pt b32 0), (pt b39 0), (pt b29 0), (pt ob 0)] mk0 (mk4 rfl rfl rfl hs15) ?_)
   have st65 : St Z w0 w63 (EJ b32 b39 b29 ob x20.pred hv25 bv26 4 ((i : Nat) : Int) (edgesF (rs.take i)) lv2 ++ L) := (St.selT [Blk b39 45 [(.int .i8 (4))], Blk b32 31 [(.string x20.pred), hv25, bv26], Blk b29 3 [(ni i)], Blk ob 24 [lv2], Row 47 4 lv2 (edgesF (rs.take i)).length ((edgesF (rs.take i)).flatMap ecs)] [1, 0, 2, 3, 4] rfl (by decide) st64)
   have hel := edgesF_len (rs.take i)
   refine W1 (OpT.callS cal12 [] [] [bv26, (.func (.func 13) #[] #[(pt b32 0), (pt b39 0), (pt b29 0), (pt ob 0)])] rfl (ca2 rfl rfl) (atoms_spec (fun es lv => EJ b32 b39 b29 ob x20.pred hv25 bv26 4 ((i : Nat) : Int) es lv) (snocF (edgOf x20.pred 4 ((i : Nat) : Int))) (edgesF (rs.take i)) lv2 st65 bv26 x20.body hb28 13 cal13 [(pt b32 0), (pt b39 0), (pt b29 0), (pt ob 0)] (fun L2 w2 j z lv2 hz hza cs2 hR st2 => by obtain ⟨a2, l2, r2, rfl, q1, q2, q3⟩ := hR; exact Edges1_spec hh27 hb28 st2 (by have h1 := fld_len (edgOf x20.pred 4 ((i : Nat) : Int)) (x20.body.take j) (edgesF (rs.take i)); have h2 := (List.getElem?_eq_some_iff.1 hz).1; rw [List.length_take] at h1; omega) z a2 l2 r2 q1 q2 q3)) ?_)
   rintro v69 w70 ⟨rfl, lv66, st71⟩
   replace st71 : St Z w0 w70 (Blk b32 31 [(.string x20.pred), hv25, bv26] :: Blk b39 45 [(.int .i8 (4))] :: Blk b29 3 [(ni i)] :: Blk ob 24 [lv66] :: Row 47 4 lv66 (fld (snocF (edgOf x20.pred 4 ((i : Nat) : Int))) (edgesF (rs.take i)) x20.body).length ((fld (snocF (edgOf x20.pred 4 ((i : Nat) : Int))) (edgesF (rs.take i)) x20.body).flatMap ecs) :: L) := st71
   have o67 := st71.rowOne (i := 4) rfl
   have c68 := st71.rowCel (i := 4) rfl
   refine WL.nil ?_
   refine blkQ_n ?_
   refine thenQ_n ?_
   refine WC.region ?_
   refine W1 (OpT.iadd .i64 (((i : Nat) : Int)) (1) (((i + 1 : Nat) : Int)) hs14 rfl (wadd (a := i) (b := 1) (by omega)) ?_)
   refine W1 (OpT.move (ni (i + 1)) rfl ?_)
   refine WL.nil ?_
   have e73 := edges_fld hx20 (show kindOf x20 = 4 from by simp only [kindOf]; simp [h47, h62])
   have st72 : St Z w0 w70 (Blk ob 24 [lv66] :: Row 47 4 lv66 (edgesF (rs.take (i + 1))).length ((edgesF (rs.take (i + 1))).flatMap ecs) :: L) := by rw [← e73]; exact (St.selT [Blk b32 31 [(.string x20.pred), hv25, bv26], Blk b39 45 [(.int .i8 (4))], Blk b29 3 [(ni i)], Blk ob 24 [lv66], Row 47 4 lv66 (fld (snocF (edgOf x20.pred 4 ((i : Nat) : Int))) (edgesF (rs.take i)) x20.body).length ((fld (snocF (edgOf x20.pred 4 ((i : Nat) : Int))) (edgesF (rs.take i)) x20.body).flatMap ecs)] [3, 4] rfl (by decide) st71)
   exact loopQ_n _ (by omega) ⟨i + 1, lv66, rfl, by omega, rfl, hs15, hs16, hs17, st72⟩
  refine WC.skip ?_
  refine thenQ_n ?_
  refine WC.region ?_
  refine W1 (OpT.field 2 ⟨b32, 0, none⟩ ⟨b32, 2, none⟩ tf31_2 rfl rfl ?_)
  refine W1 (OpT.loadS ⟨b32, 2, none⟩ bv26 ta29 rfl (st61.cellB (i := 1) rfl rfl) ?_)
  refine W1 (OpT.makeFunc [] [(pt b32 0), (pt b39 0), (pt b29 0), (pt ob 0)] mk0 (mk4 rfl rfl rfl hs15) ?_)
  have st74 : St Z w0 w60 (EJ b32 b39 b29 ob x20.pred hv25 bv26 1 ((i : Nat) : Int) (edgesF (rs.take i)) lv2 ++ L) := (St.selT [Blk b39 45 [(.int .i8 (1))], Blk b32 31 [(.string x20.pred), hv25, bv26], Blk b29 3 [(ni i)], Blk ob 24 [lv2], Row 47 4 lv2 (edgesF (rs.take i)).length ((edgesF (rs.take i)).flatMap ecs)] [1, 0, 2, 3, 4] rfl (by decide) st61)
  have hel := edgesF_len (rs.take i)
  refine W1 (OpT.callS cal12 [] [] [bv26, (.func (.func 13) #[] #[(pt b32 0), (pt b39 0), (pt b29 0), (pt ob 0)])] rfl (ca2 rfl rfl) (atoms_spec (fun es lv => EJ b32 b39 b29 ob x20.pred hv25 bv26 1 ((i : Nat) : Int) es lv) (snocF (edgOf x20.pred 1 ((i : Nat) : Int))) (edgesF (rs.take i)) lv2 st74 bv26 x20.body hb28 13 cal13 [(pt b32 0), (pt b39 0), (pt b29 0), (pt ob 0)] (fun L2 w2 j z lv2 hz hza cs2 hR st2 => by obtain ⟨a2, l2, r2, rfl, q1, q2, q3⟩ := hR; exact Edges1_spec hh27 hb28 st2 (by have h1 := fld_len (edgOf x20.pred 1 ((i : Nat) : Int)) (x20.body.take j) (edgesF (rs.take i)); have h2 := (List.getElem?_eq_some_iff.1 hz).1; rw [List.length_take] at h1; omega) z a2 l2 r2 q1 q2 q3)) ?_)
  rintro v78 w79 ⟨rfl, lv75, st80⟩
  replace st80 : St Z w0 w79 (Blk b32 31 [(.string x20.pred), hv25, bv26] :: Blk b39 45 [(.int .i8 (1))] :: Blk b29 3 [(ni i)] :: Blk ob 24 [lv75] :: Row 47 4 lv75 (fld (snocF (edgOf x20.pred 1 ((i : Nat) : Int))) (edgesF (rs.take i)) x20.body).length ((fld (snocF (edgOf x20.pred 1 ((i : Nat) : Int))) (edgesF (rs.take i)) x20.body).flatMap ecs) :: L) := st80
  have o76 := st80.rowOne (i := 4) rfl
  have c77 := st80.rowCel (i := 4) rfl
  refine WL.nil ?_
  refine blkQ_n ?_
  refine thenQ_n ?_
  refine WC.region ?_
  refine W1 (OpT.iadd .i64 (((i : Nat) : Int)) (1) (((i + 1 : Nat) : Int)) hs14 rfl (wadd (a := i) (b := 1) (by omega)) ?_)
  refine W1 (OpT.move (ni (i + 1)) rfl ?_)
  refine WL.nil ?_
  have e82 := edges_fld hx20 (show kindOf x20 = 1 from by simp only [kindOf]; simp [h47, h62])
  have st81 : St Z w0 w79 (Blk ob 24 [lv75] :: Row 47 4 lv75 (edgesF (rs.take (i + 1))).length ((edgesF (rs.take (i + 1))).flatMap ecs) :: L) := by rw [← e82]; exact (St.selT [Blk b32 31 [(.string x20.pred), hv25, bv26], Blk b39 45 [(.int .i8 (1))], Blk b29 3 [(ni i)], Blk ob 24 [lv75], Row 47 4 lv75 (fld (snocF (edgOf x20.pred 1 ((i : Nat) : Int))) (edgesF (rs.take i)) x20.body).length ((fld (snocF (edgOf x20.pred 1 ((i : Nat) : Int))) (edgesF (rs.take i)) x20.body).flatMap ecs)] [3, 4] rfl (by decide) st80)
  exact loopQ_n _ (by omega) ⟨i + 1, lv75, rfl, by omega, rfl, hs15, hs16, hs17, st81⟩
 refine WC.exit ?_
 refine thenQ_x ?_
 refine loopQ_x ?_
 refine blkQ_hit ?_
 refine thenQ_n ?_
 refine Wsr ?_
 refine W1 (OpT.loadS ⟨ob, 0, none⟩ lv2 ta24 hs15 (st12.cellB (i := 0) rfl rfl) ?_)
 refine W1 (OpT.assign lv2 rfl ?_)
 refine Wnt ?_
 refine WC.ret <| retQ.one lv2 rfl ?_
 have eT : rs.take i = rs := List.take_of_length_le (by omega)
 rw [eT] at st12
 exact ⟨_, rfl, olv2, clv2, (St.selT [Blk ob 24 [lv2], Row 47 4 lv2 (edgesF rs).length ((edgesF rs).flatMap ecs)] [1] rfl (by decide) st12)⟩

end Go.Ped
