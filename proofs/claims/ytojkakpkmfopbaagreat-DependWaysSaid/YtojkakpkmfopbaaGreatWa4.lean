/- Parts F31, F32, F33, F34, F35, F36, TjA, TjB, TjC, TjD, TjE, TjF, TjG, TjH, TjI of the proof. -/
import Derived.Test.YtojkakpkmfopbaaGreatWa3
set_option linter.unusedVariables false
set_option maxRecDepth 20000
namespace Go.Ped
open Go Go.Eng Go.RowKit Go.Proofs

theorem ta77 : aggB Tryz.prog 77 = some false := by kernel_rfl
theorem tu77 : Tryz.prog.underlying 77 = some (.map 9 37) := by kernel_rfl
theorem tz77 : zeroB Tryz.prog 77 = some (.map none) := by kernel_rfl
theorem ts77 : sizeB Tryz.prog 77 = some 1 := by kernel_rfl
theorem cal48 : CallOk Tryz.prog 48 := ⟨⟨Tryz.f48, Tryz.func48, rfl, by decide⟩⟩
def gKey (g : Gm) (k : ByteArray) : Gm := if (mget g k).isSome then g else mset g k []
def gSuc (g : Gm) (k : ByteArray) : List ByteArray := (mget g k).getD []
def gAdd (g : Gm) (k t : ByteArray) : Gm := mset g k (gSuc g k ++ [t])
def gStep (p : ByteArray) (g : Gm) (x : Ltr) : Gm := gKey (gAdd g p x.atom.pred) x.atom.pred
def gRule (g : Gm) (r : Rul) : Gm := fld (gStep r.pred) (gKey g r.pred) r.body
def drawF (rs : List Rul) : Gm := rs.foldl gRule []
theorem gSuc_key (g : Gm) (k q : ByteArray) : gSuc (gKey g k) q = gSuc g q := by
  unfold gKey gSuc
  split
  · rfl
  · rename_i h
    rw [mget_mset]
    split
    · rename_i e; subst e
      cases hq : mget g q with
      | none => rfl
      | some x => rw [hq] at h; simp at h
    · rfl
theorem gSuc_add (g : Gm) (k t q : ByteArray) : gSuc (gAdd g k t) q = if q = k then gSuc g k ++ [t] else gSuc g q := by
  unfold gAdd
  rw [gSuc, mget_mset]
  split
  · rfl
  · rfl
theorem gHas_key (g : Gm) (k q : ByteArray) : (mget (gKey g k) q).isSome = (decide (q = k) || (mget g q).isSome) := by
  unfold gKey
  split
  · rename_i h
    by_cases e : q = k
    · subst e; simp [h]
    · simp [e]
  · exact isSome_mset g k q []
theorem gHas_step (p : ByteArray) (g : Gm) (x : Ltr) (q : ByteArray) : (mget (gStep p g x) q).isSome = (decide (q = x.atom.pred) || (decide (q = p) || (mget g q).isSome)) := by
  unfold gStep gAdd
  rw [gHas_key, isSome_mset]
theorem gSuc_step (p : ByteArray) (g : Gm) (x : Ltr) (q : ByteArray) : gSuc (gStep p g x) q = if q = p then gSuc g p ++ [x.atom.pred] else gSuc g q := by
  unfold gStep
  rw [gSuc_key, gSuc_add]
theorem fold_has (p : ByteArray) (q : ByteArray) : ∀ (ys : List Ltr) (g : Gm), (mget g q).isSome = true → (mget (ys.foldl (gStep p) g) q).isSome = true
  | [], g, h => h
  | y :: ys, g, h => fold_has p q ys _ (by rw [gHas_step, h]; simp)
theorem fold_suc (p : ByteArray) (q : ByteArray) : ∀ (ys : List Ltr) (g : Gm), gSuc (ys.foldl (gStep p) g) q = gSuc g q ++ (if q = p then ys.map (fun y => y.atom.pred) else [])
  | [], g => by simp
  | y :: ys, g => by
    rw [List.foldl_cons, fold_suc p q ys, gSuc_step]
    by_cases h : q = p
    · subst h; simp
    · simp [h]
theorem draw_len : ∀ (rs : List Rul) (g : Gm) (q : ByteArray), (gSuc (rs.foldl gRule g) q).length ≤ (gSuc g q).length + (rs.flatMap Rul.body).length
  | [], g, q => by simp
  | r :: rs, g, q => by
    have h := draw_len rs (gRule g r) q
    have h2 : (gSuc (gRule g r) q).length ≤ (gSuc g q).length + r.body.length := by
      unfold gRule fld
      rw [fold_suc, gSuc_key, List.length_append]
      split
      · rw [List.length_map]; have := List.length_filter_le isAtm r.body; omega
      · simp
    simp only [List.foldl_cons, List.flatMap_cons, List.length_append]; omega
theorem draw_step {rs : List Rul} {i : Nat} {x : Rul} (hx : rs[i]? = some x) : drawF (rs.take (i + 1)) = gRule (drawF (rs.take i)) x := by
  rw [List.take_add_one, hx, drawF, List.foldl_append]; rfl
abbrev DJ (gb mb rb : Nat) (p : ByteArray) (a b : Value) (g : Gm) : List Res := [Blk gb 77 [.map (some mb)], Blk rb 54 [.string p, a, b], Gra mb g]
theorem draw1_spec {Z : Nat → Prop} {w0 w : World} {L : List Res} {gb mb rb : Nat} {a b : Value} {r : Rul} {g : Gm} (ha : rAgr.sl Z w0 a r.head) (hb : rLtr.sl Z w0 b r.body) (st : St Z w0 w (DJ gb mb rb r.pred a b g ++ L)) (hk : (mget g r.pred).isSome = true) (he : (gSuc g r.pred).length < 1048576) (x : Ltr) (av lk rk : Value) (hc : rTrm.sl Z w0 av x.atom.args) (hl : rExp.sl Z w0 lk x.left.kids) (hr : rExp.sl Z w0 rk x.right.kids) : Calls Tryz.prog 48 #[(.agg #[(.int .i8 (x.kind)), (.string x.atom.pred), av, (.int .i8 (x.rel)), (.int .i8 (x.left.op)), (.string x.left.term.var), (.int .i8 (x.left.term.val.kind)), (.int .i64 (x.left.term.val.num)), (.string x.left.term.val.text), lk, (.int .i8 (x.right.op)), (.string x.right.term.var), (.int .i8 (x.right.term.val.kind)), (.int .i64 (x.right.term.val.num)), (.string x.right.term.val.text), rk]), (pt gb 0), (pt rb 0)] w (Ret fun u w' => u = .tuple #[] ∧ ∃ lv' : Value, St Z w0 w' (DJ gb mb rb r.pred a b (gStep r.pred g x) ++ L)) := by
 obtain ⟨e0, rfl, st0⟩ := (St.selT [Blk gb 77 [(.map (some mb))], Blk rb 54 [(.string r.pred), a, b], Gra mb g] [2, 0, 1] rfl (by decide) st : St Z w0 w (Gra mb g :: (Blk gb 77 [(.map (some mb))] :: Blk rb 54 [(.string r.pred), a, b] :: L))).gra
 obtain ⟨e1, v, xs, e2, rfl, hk1⟩ := en_split hk
 have hxl : xs.length < 1048576 := by have := he; unfold gSuc at this; rw [enG_get hk1] at this; exact this
 have st1 := st0.graTake
 have st2 : St Z w0 w (Mv mb (enM (e1 ++ (r.pred, v, xs) :: e2)) :: Row 9 1 v xs.length (xs.map Value.string) :: Blk gb 77 [(.map (some mb))] :: Blk rb 54 [(.string r.pred), a, b] :: (enR e1 ++ (enR e2 ++ L))) := St.perm (List.Perm.cons _ (List.Perm.cons _ ((List.Perm.append_left _ (List.perm_append_comm_assoc (enR e2) [Blk gb 77 [(.map (some mb))], Blk rb 54 [(.string r.pred), a, b]] L)).trans (List.perm_append_comm_assoc (enR e1) [Blk gb 77 [(.map (some mb))], Blk rb 54 [(.string r.pred), a, b]] (enR e2 ++ L))))) st1
 have olv := st2.rowOne (i := 1) rfl
 have clv := st2.rowCel (i := 1) rfl
 refine calls_of_WC (m := 32) (rs := []) Tryz.func48 rfl rfl rfl rfl ?_
 refine Wsr ?_
 refine W1 (OpT.box st2 (.agg #[(.int .i8 (x.kind)), (.string x.atom.pred), av, (.int .i8 (x.rel)), (.int .i8 (x.left.op)), (.string x.left.term.var), (.int .i8 (x.left.term.val.kind)), (.int .i64 (x.left.term.val.num)), (.string x.left.term.val.text), lk, (.int .i8 (x.right.op)), (.string x.right.term.var), (.int .i8 (x.right.term.val.kind)), (.int .i64 (x.right.term.val.num)), (.string x.right.term.val.text), rk]) [(.int .i8 (x.kind)), (.string x.atom.pred), av, (.int .i8 (x.rel)), (.int .i8 (x.left.op)), (.string x.left.term.var), (.int .i8 (x.left.term.val.kind)), (.int .i64 (x.left.term.val.num)), (.string x.left.term.val.text), lk, (.int .i8 (x.right.op)), (.string x.right.term.var), (.int .i8 (x.right.term.val.kind)), (.int .i64 (x.right.term.val.num)), (.string x.right.term.val.text), rk] rfl rfl (fun b1 w2 st3 => ?_))
 refine Wnt ?_
 refine WC.seq ?_
 have st4 : St Z w0 w2 (Row 9 1 v xs.length (xs.map Value.string) :: Blk b1 74 [(.int .i8 (x.kind)), (.string x.atom.pred), av, (.int .i8 (x.rel)), (.int .i8 (x.left.op)), (.string x.left.term.var), (.int .i8 (x.left.term.val.kind)), (.int .i64 (x.left.term.val.num)), (.string x.left.term.val.text), lk, (.int .i8 (x.right.op)), (.string x.right.term.var), (.int .i8 (x.right.term.val.kind)), (.int .i64 (x.right.term.val.num)), (.string x.right.term.val.text), rk] :: Mv mb (enM (e1 ++ (r.pred, v, xs) :: e2)) :: Blk gb 77 [(.map (some mb))] :: Blk rb 54 [(.string r.pred), a, b] :: (enR e1 ++ (enR e2 ++ L))) := (St.selD 5 [2, 0, 1, 3, 4] rfl rfl (by decide) st3)
 refine WC.drawW (L := (Blk b1 74 [(.int .i8 (x.kind)), (.string x.atom.pred), av, (.int .i8 (x.rel)), (.int .i8 (x.left.op)), (.string x.left.term.var), (.int .i8 (x.left.term.val.kind)), (.int .i64 (x.left.term.val.num)), (.string x.left.term.val.text), lk, (.int .i8 (x.right.op)), (.string x.right.term.var), (.int .i8 (x.right.term.val.kind)), (.int .i64 (x.right.term.val.num)), (.string x.right.term.val.text), rk] :: Mv mb (enM (e1 ++ (r.pred, v, xs) :: e2)) :: Blk gb 77 [(.map (some mb))] :: Blk rb 54 [(.string r.pred), a, b] :: (enR e1 ++ (enR e2 ++ L)))) 12 (fun jj vals vv => match jj with | 0 => vv = (.map (some mb)) | 1 => vv = (pt rb 0) | 2 => vv = (.string r.pred) | 3 => vv = (.map (some mb)) | 4 => vv = (pt rb 0) | 5 => vv = (.string r.pred) | 6 => vv = v | 7 => vv = (pt b1 1) | 8 => vv = (pt b1 1) | 9 => vv = (.string x.atom.pred) | 10 => vv = (.slice (some ⟨(bk vv), 0, none⟩) 1 1) | 11 => vv.oneCell' = true ∧ vv.cells = #[vv] | _ => True) (fun jj vals vv => match jj with | 11 => [Row 9 1 vv (xs.length + 1) ((xs.map Value.string) ++ [(.string x.atom.pred)])] | 10 => [Blk (bk vv) 9 [(.string x.atom.pred)]] | _ => []) (fun jj => match jj with | 11 => [Row 9 1 v xs.length (xs.map Value.string)] | _ => []) (fun jj => match jj with | 11 => some 10 | _ => none) st4 fmix (by kernel_rfl) (by kernel_rfl) ((obS (obS (obS (obS (obS (obS (obS (obS (obS (obS (obS (obS ob0 (fun aa bb vv h hf => hf)) (fun aa bb vv h hf => hf)) (fun aa bb vv h hf => hf)) (fun aa bb vv h hf => hf)) (fun aa bb vv h hf => hf)) (fun aa bb vv h hf => hf)) (fun aa bb vv h hf => hf)) (fun aa bb vv h hf => hf)) (fun aa bb vv h hf => hf)) (fun aa bb vv h hf => hf)) (fun aa bb vv h hf => hf)) (fun aa bb vv h hf => hf))) ((obS (obS (obS (obS (obS (obS (obS (obS (obS (obS (obS (obS ob0 (fun aa bb vv h => rfl)) (fun aa bb vv h => rfl)) (fun aa bb vv h => rfl)) (fun aa bb vv h => rfl)) (fun aa bb vv h => rfl)) (fun aa bb vv h => rfl)) (fun aa bb vv h => rfl)) (fun aa bb vv h => rfl)) (fun aa bb vv h => rfl)) (fun aa bb vv h => rfl)) (fun aa bb vv h => rfl)) (fun aa bb vv h => rfl))) ((obS (obS (obS (obS (obS (obS (obS (obS (obS (obS (obS (obS ob0 ?_) ?_) ?_) ?_) ?_) ?_) ?_) ?_) ?_) ?_) ?_) ?_)) ?_
 ·intro vals ρ w6 X hd h0 st5
  have e7 : ρ 1 = (pt gb 0) := (h0 1 rfl).trans rfl
  refine W1 (OpT.loadS ⟨gb, 0, none⟩ (.map (some mb)) ta77 e7 (st5.cellB (i := 2) rfl rfl) ?_)
  refine WL.nil ?_
  exact oneQ.mk ⟨rfl, st5⟩
 ·intro vals ρ w9 X hd h0 st8
  have e10 : ρ 2 = (pt rb 0) := (h0 2 rfl).trans rfl
  refine W1 (OpT.field 0 ⟨rb, 0, none⟩ ⟨rb, 0, none⟩ tf54_0 e10 rfl ?_)
  refine WL.nil ?_
  exact oneQ.mk ⟨rfl, st8⟩
 ·intro vals ρ w12 X hd h0 st11
  have e13 : ρ 7 = (pt rb 0) := ((hd 1 rfl).2 7 rfl).trans (hd 1 rfl).1
  refine W1 (OpT.loadS ⟨rb, 0, none⟩ (.string r.pred) ta9 e13 (st11.cellB (i := 3) rfl rfl) ?_)
  refine WL.nil ?_
  exact oneQ.mk ⟨rfl, st11⟩
 ·intro vals ρ w15 X hd h0 st14
  have e16 : ρ 1 = (pt gb 0) := (h0 1 rfl).trans rfl
  refine W1 (OpT.loadS ⟨gb, 0, none⟩ (.map (some mb)) ta77 e16 (st14.cellB (i := 2) rfl rfl) ?_)
  refine WL.nil ?_
  exact oneQ.mk ⟨rfl, st14⟩
 ·intro vals ρ w18 X hd h0 st17
  have e19 : ρ 2 = (pt rb 0) := (h0 2 rfl).trans rfl
  refine W1 (OpT.field 0 ⟨rb, 0, none⟩ ⟨rb, 0, none⟩ tf54_0 e19 rfl ?_)
  refine WL.nil ?_
  exact oneQ.mk ⟨rfl, st17⟩
 ·intro vals ρ w21 X hd h0 st20
  have e22 : ρ 10 = (pt rb 0) := ((hd 4 rfl).2 10 rfl).trans (hd 4 rfl).1
  refine W1 (OpT.loadS ⟨rb, 0, none⟩ (.string r.pred) ta9 e22 (st20.cellB (i := 3) rfl rfl) ?_)
  refine WL.nil ?_
  exact oneQ.mk ⟨rfl, st20⟩
 ·intro vals ρ w24 X hd h0 st23
  have e25 : ρ 9 = (.map (some mb)) := ((hd 3 rfl).2 9 rfl).trans (hd 3 rfl).1
  have e26 : ρ 11 = (.string r.pred) := ((hd 5 rfl).2 11 rfl).trans (hd 5 rfl).1
  refine W1 (OpT.litV (v := ((mget (enM (e1 ++ (r.pred, v, xs) :: e2)) r.pred).getD vn)) (v' := v) (by rw [enM_get hk1]; rfl) (fun hk => OpT.lookupV st23 1 rfl ko9 tu77 tz37 (r.pred) e25 e26 hk) ?_)
  refine WL.nil ?_
  exact oneQ.mk ⟨rfl, st23⟩
 ·intro vals ρ w29 X hd h0 st28
  have e30 : ρ 3 = (pt b1 0) := (h0 3 rfl).trans rfl
  refine W1 (OpT.field 1 ⟨b1, 0, none⟩ ⟨b1, 1, none⟩ tf74_1 e30 rfl ?_)
  refine WL.nil ?_
  exact oneQ.mk ⟨rfl, st28⟩
 ·intro vals ρ w32 X hd h0 st31
  have e33 : ρ 13 = (pt b1 1) := ((hd 7 rfl).2 13 rfl).trans (hd 7 rfl).1
  refine W1 (OpT.field 0 ⟨b1, 1, none⟩ ⟨b1, 1, none⟩ tf62_0 e33 rfl ?_)
  refine WL.nil ?_
  exact oneQ.mk ⟨rfl, st31⟩
 ·intro vals ρ w35 X hd h0 st34
  have e36 : ρ 14 = (pt b1 1) := ((hd 8 rfl).2 14 rfl).trans (hd 8 rfl).1
  refine W1 (OpT.loadS ⟨b1, 1, none⟩ (.string x.atom.pred) ta9 e36 (st34.cellB (i := 0) rfl rfl) ?_)
  refine WL.nil ?_
  exact oneQ.mk ⟨rfl, st34⟩
 ·intro vals ρ w38 X hd h0 st37
  have e39 : ρ 15 = (.string x.atom.pred) := ((hd 9 rfl).2 15 rfl).trans (hd 9 rfl).1
  refine W1 (OpT.buildSlice st37 [(0, (.string x.atom.pred))] [(.string x.atom.pred)] tu37 ts9 tz9 (mp1 e39) (by kernel_rfl) (by decide) (fun b40 w41 st42 => ?_))
  refine WL.nil ?_
  exact oneQ.mk ⟨rfl, st42⟩
 ·intro vals ρ w44 X hd h0 st43
  have e45 : ρ 12 = v := ((hd 6 rfl).2 12 rfl).trans (hd 6 rfl).1
  have e46 : ρ 16 = (.slice (some ⟨(bk (vals 10)), 0, none⟩) 1 1) := ((hd 10 rfl).2 16 rfl).trans (hd 10 rfl).1
  have st47 : St Z w0 w44 (Blk (bk (vals 10)) 9 [(.string x.atom.pred)] :: Row 9 1 v xs.length (xs.map Value.string) :: Blk b1 74 [(.int .i8 (x.kind)), (.string x.atom.pred), av, (.int .i8 (x.rel)), (.int .i8 (x.left.op)), (.string x.left.term.var), (.int .i8 (x.left.term.val.kind)), (.int .i64 (x.left.term.val.num)), (.string x.left.term.val.text), lk, (.int .i8 (x.right.op)), (.string x.right.term.var), (.int .i8 (x.right.term.val.kind)), (.int .i64 (x.right.term.val.num)), (.string x.right.term.val.text), rk] :: Mv mb (enM (e1 ++ (r.pred, v, xs) :: e2)) :: Blk gb 77 [(.map (some mb))] :: Blk rb 54 [(.string r.pred), a, b] :: ((enR e1 ++ (enR e2 ++ L)) ++ X)) := (St.selD 6 [1, 0, 2, 3, 4, 5] rfl rfl (by decide) st43)
  refine W1 (OpT.appendK st47 1 tu37 ts9 tz9 rfl tb9 (by decide) e45 e46 rfl rfl (by omega) (by omega) (fun v48 w49 st50 hn51 => ?_))
  have o52 := st50.rowOne (i := 1) rfl
  have c53 := st50.rowCel (i := 1) rfl
  refine WL.nil ?_
  exact oneQ.mk ⟨⟨o52, c53⟩, (St.selD 6 [1, 0, 2, 3, 4, 5] rfl rfl (by decide) st50)⟩
 intro vals ρ56 w55 hv h0 st54
 replace st54 : St Z w0 w55 (Blk (bk (vals 10)) 9 [(.string x.atom.pred)] :: Row 9 1 (vals 11) (xs.length + 1) ((xs.map Value.string) ++ [(.string x.atom.pred)]) :: Blk b1 74 [(.int .i8 (x.kind)), (.string x.atom.pred), av, (.int .i8 (x.rel)), (.int .i8 (x.left.op)), (.string x.left.term.var), (.int .i8 (x.left.term.val.kind)), (.int .i64 (x.left.term.val.num)), (.string x.left.term.val.text), lk, (.int .i8 (x.right.op)), (.string x.right.term.var), (.int .i8 (x.right.term.val.kind)), (.int .i64 (x.right.term.val.num)), (.string x.right.term.val.text), rk] :: Mv mb (enM (e1 ++ (r.pred, v, xs) :: e2)) :: Blk gb 77 [(.map (some mb))] :: Blk rb 54 [(.string r.pred), a, b] :: (enR e1 ++ (enR e2 ++ L))) := st54
 have e57 : ρ56 1 = (pt gb 0) := (h0 1 rfl).trans rfl
 have e58 : ρ56 3 = (pt b1 0) := (h0 3 rfl).trans rfl
 have e59 : ρ56 6 = (.map (some mb)) := ((hv 0 rfl).2 6 rfl).trans (hv 0 rfl).1
 have e60 : ρ56 8 = (.string r.pred) := ((hv 2 rfl).2 8 rfl).trans (hv 2 rfl).1
 have o61 : (vals 11).oneCell' = true := (hv 11 rfl).1.1
 have c62 : (vals 11).cells = #[vals 11] := (hv 11 rfl).1.2
 have e63 : ρ56 17 = (vals 11) := ((hv 11 rfl).2 17 rfl)
 have o64 : (vals 11).oneCell' = true := (hv 11 rfl).1.1
 have c65 : (vals 11).cells = #[vals 11] := (hv 11 rfl).1.2
 clear hv h0
 generalize bk (vals 10) = b66 at *
 generalize vals 11 = v67 at *
 refine WL.stepN (OpT.mapSet st54 3 rfl ko9 tu77 (r.pred) (v67) e59 e60 e63 (fun w68 st69 => ?_))
 refine Wnt ?_
 refine WC.seq ?_
 have st70 : St Z w0 w68 (Gra mb (gAdd (enG (e1 ++ (r.pred, v, xs) :: e2)) r.pred x.atom.pred) :: (Blk b1 74 [(.int .i8 (x.kind)), (.string x.atom.pred), av, (.int .i8 (x.rel)), (.int .i8 (x.left.op)), (.string x.left.term.var), (.int .i8 (x.left.term.val.kind)), (.int .i64 (x.left.term.val.num)), (.string x.left.term.val.text), lk, (.int .i8 (x.right.op)), (.string x.right.term.var), (.int .i8 (x.right.term.val.kind)), (.int .i64 (x.right.term.val.num)), (.string x.right.term.val.text), rk] :: Blk gb 77 [(.map (some mb))] :: Blk rb 54 [(.string r.pred), a, b] :: L)) := by
  have e0 : gSuc (enG (e1 ++ (r.pred, v, xs) :: e2)) r.pred = xs := by unfold gSuc; rw [enG_get hk1]; rfl
  unfold gAdd; rw [e0]
  refine St.graAdd (u := v67) hk1 (St.perm ?_ (St.selD 6 [3, 1, 2, 4, 5] rfl rfl (by decide) st69))
  refine List.Perm.cons _ (List.Perm.cons _ ?_)
  exact (List.perm_append_comm_assoc [Blk b1 74 [(.int .i8 (x.kind)), (.string x.atom.pred), av, (.int .i8 (x.rel)), (.int .i8 (x.left.op)), (.string x.left.term.var), (.int .i8 (x.left.term.val.kind)), (.int .i64 (x.left.term.val.num)), (.string x.left.term.val.text), lk, (.int .i8 (x.right.op)), (.string x.right.term.var), (.int .i8 (x.right.term.val.kind)), (.int .i64 (x.right.term.val.num)), (.string x.right.term.val.text), rk], Blk gb 77 [(.map (some mb))], Blk rb 54 [(.string r.pred), a, b]] (enR e1) (enR e2 ++ L)).trans (List.Perm.append_left _ (List.perm_append_comm_assoc [Blk b1 74 [(.int .i8 (x.kind)), (.string x.atom.pred), av, (.int .i8 (x.rel)), (.int .i8 (x.left.op)), (.string x.left.term.var), (.int .i8 (x.left.term.val.kind)), (.int .i64 (x.left.term.val.num)), (.string x.left.term.val.text), lk, (.int .i8 (x.right.op)), (.string x.right.term.var), (.int .i8 (x.right.term.val.kind)), (.int .i64 (x.right.term.val.num)), (.string x.right.term.val.text), rk], Blk gb 77 [(.map (some mb))], Blk rb 54 [(.string r.pred), a, b]] (enR e2) L))
 obtain ⟨e71, he72, st73⟩ := st70.gra
 have st74 : St Z w0 w68 (Mv mb (enM e71) :: Blk b1 74 [(.int .i8 (x.kind)), (.string x.atom.pred), av, (.int .i8 (x.rel)), (.int .i8 (x.left.op)), (.string x.left.term.var), (.int .i8 (x.left.term.val.kind)), (.int .i64 (x.left.term.val.num)), (.string x.left.term.val.text), lk, (.int .i8 (x.right.op)), (.string x.right.term.var), (.int .i8 (x.right.term.val.kind)), (.int .i64 (x.right.term.val.num)), (.string x.right.term.val.text), rk] :: Blk gb 77 [(.map (some mb))] :: Blk rb 54 [(.string r.pred), a, b] :: (enR e71 ++ L)) := St.perm (List.Perm.cons _ (List.perm_append_comm_assoc (enR e71) [Blk b1 74 [(.int .i8 (x.kind)), (.string x.atom.pred), av, (.int .i8 (x.rel)), (.int .i8 (x.left.op)), (.string x.left.term.var), (.int .i8 (x.left.term.val.kind)), (.int .i64 (x.left.term.val.num)), (.string x.left.term.val.text), lk, (.int .i8 (x.right.op)), (.string x.right.term.var), (.int .i8 (x.right.term.val.kind)), (.int .i64 (x.right.term.val.num)), (.string x.right.term.val.text), rk], Blk gb 77 [(.map (some mb))], Blk rb 54 [(.string r.pred), a, b]] L)) st73
 refine WC.region ?_
 refine W1 (OpT.loadS ⟨gb, 0, none⟩ (.map (some mb)) ta77 e57 (st74.cellB (i := 2) rfl rfl) ?_)
 refine W1 (OpT.field 1 ⟨b1, 0, none⟩ ⟨b1, 1, none⟩ tf74_1 e58 rfl ?_)
 refine W1 (OpT.field 0 ⟨b1, 1, none⟩ ⟨b1, 1, none⟩ tf62_0 rfl rfl ?_)
 refine W1 (OpT.loadS ⟨b1, 1, none⟩ (.string x.atom.pred) ta9 rfl (st74.cellB (i := 1) rfl rfl) ?_)
 refine W1 (OpT.lookupOkV st74 0 rfl ko9 tu77 tz37 (x.atom.pred) rfl rfl ?_)
 refine W1 (OpT.move (.tuple #[((mget (enM e71) x.atom.pred).getD vn), (.bool ((mget (enM e71) x.atom.pred).isSome))]) rfl ?_)
 refine W1 (OpT.extract [((mget (enM e71) x.atom.pred).getD vn), (.bool ((mget (enM e71) x.atom.pred).isSome))] ((mget (enM e71) x.atom.pred).getD vn) rfl rfl ?_)
 refine W1 (OpT.extract [((mget (enM e71) x.atom.pred).getD vn), (.bool ((mget (enM e71) x.atom.pred).isSome))] (.bool ((mget (enM e71) x.atom.pred).isSome)) rfl rfl ?_)
 refine W1 (OpT.assign ((mget (enM e71) x.atom.pred).getD vn) rfl ?_)
 refine W1 (OpT.assign (.bool ((mget (enM e71) x.atom.pred).isSome)) rfl ?_)
 refine Wns ?_
 refine W1 (OpT.move (.bool ((mget (enM e71) x.atom.pred).isSome)) rfl ?_)
 refine W1 (OpT.not ((mget (enM e71) x.atom.pred).isSome) rfl ?_)
 refine Wnt ?_
 refine WC.cond ((!((mget (enM e71) x.atom.pred).isSome))) rfl (fun h76 => ?_) (fun h76 => ?_)
 ·refine WC.region ?_
  refine W1 (OpT.loadS ⟨gb, 0, none⟩ (.map (some mb)) ta77 e57 (st74.cellB (i := 2) rfl rfl) ?_)
  refine W1 (OpT.field 1 ⟨b1, 0, none⟩ ⟨b1, 1, none⟩ tf74_1 e58 rfl ?_)
  refine W1 (OpT.field 0 ⟨b1, 1, none⟩ ⟨b1, 1, none⟩ tf62_0 rfl rfl ?_)
  refine W1 (OpT.loadS ⟨b1, 1, none⟩ (.string x.atom.pred) ta9 rfl (st74.cellB (i := 1) rfl rfl) ?_)
  refine WL.stepN (OpT.mapSet st74 0 rfl ko9 tu77 (x.atom.pred) (vn) rfl rfl rfl (fun w77 st78 => ?_))
  refine WL.nil ?_
  refine retQ.none (.inl rfl) ?_
  refine ⟨_, rfl, rfl, vn, ?_⟩
  have hb2 : (mget (enM e71) x.atom.pred).isSome = false := by simpa using h76
  have e9 : gStep r.pred (enG (e1 ++ (r.pred, v, xs) :: e2)) x = mset (enG e71) x.atom.pred [] := by unfold gStep gKey; rw [← he72, ← en_some, hb2]; rfl
  rw [e9]
  have st9 := St.graNew hb2 (St.perm (List.Perm.cons _ (List.perm_append_comm_assoc (enR e71) [Blk gb 77 [(.map (some mb))], Blk rb 54 [(.string r.pred), a, b]] L).symm) (St.selD 4 [0, 2, 3] rfl rfl (by decide) st78))
  exact St.selT [Gra mb (mset (enG e71) x.atom.pred []), Blk gb 77 [(.map (some mb))], Blk rb 54 [(.string r.pred), a, b]] [1, 2, 0] rfl (by decide) st9
 refine WC.skip ?_
 refine retQ.none (.inl rfl) ?_
 refine ⟨_, rfl, rfl, vn, ?_⟩
 have hb2 : (mget (enM e71) x.atom.pred).isSome = true := by simpa using h76
 have e9 : gStep r.pred (enG (e1 ++ (r.pred, v, xs) :: e2)) x = enG e71 := by unfold gStep gKey; rw [← he72, ← en_some, hb2]; rfl
 rw [e9]
 have st9 := St.graI (St.perm (List.Perm.cons _ (List.perm_append_comm_assoc (enR e71) [Blk gb 77 [(.map (some mb))], Blk rb 54 [(.string r.pred), a, b]] L).symm) (St.selD 4 [0, 2, 3] rfl rfl (by decide) st74))
 exact St.selT [Gra mb (enG e71), Blk gb 77 [(.map (some mb))], Blk rb 54 [(.string r.pred), a, b]] [1, 2, 0] rfl (by decide) st9

theorem mset_mem {κ α : Type} [DecidableEq κ] {m : List (κ × α)} {k : κ} {v : α} {p : κ × α} (h : p ∈ mset m k v) : p = (k, v) ∨ p ∈ m := by
  induction m with
  | nil => rw [mset_nil] at h; exact .inl (by simpa using h)
  | cons q m ih =>
    rw [mset_cons] at h
    split at h
    · rcases List.mem_cons.1 h with h | h
      · exact .inl h
      · exact .inr (by simp [h])
    · rcases List.mem_cons.1 h with h | h
      · exact .inr (by simp [h])
      · rcases ih h with h | h
        · exact .inl h
        · exact .inr (by simp [h])
def gAll (n : Nat) (g : Gm) : Prop := ∀ p ∈ g, p.2.length ≤ n
theorem gAll_suc {n : Nat} {g : Gm} (h : gAll n g) (k : ByteArray) : (gSuc g k).length ≤ n := by
  unfold gSuc mget
  cases hf : g.find? (fun p => decide (p.1 = k)) with
  | none => simp
  | some p => exact h p (List.mem_of_find?_eq_some hf)
theorem gAll_key {n : Nat} {g : Gm} (h : gAll n g) (k : ByteArray) : gAll n (gKey g k) := by
  unfold gKey
  split
  · exact h
  · intro p hp
    rcases mset_mem hp with rfl | hp
    · simp
    · exact h p hp
theorem gAll_fold (p : ByteArray) : ∀ (ys : List Ltr) {n : Nat} {g : Gm}, gAll n g → gAll (n + ys.length) (ys.foldl (gStep p) g)
  | [], n, g, h => h
  | y :: ys, n, g, h => by
    have h2 : gAll (n + 1) (gStep p g y) := by
      refine gAll_key (fun q hq => ?_) _
      rcases mset_mem hq with rfl | hq
      · have := gAll_suc h p; simp; omega
      · have := h q hq; omega
    have := gAll_fold p ys h2
    rw [show n + (y :: ys).length = n + 1 + ys.length from by simp; omega]
    exact this
theorem gAll_draw : ∀ (rs : List Rul) {n : Nat} {g : Gm}, gAll n g → gAll (n + (rs.flatMap Rul.body).length) (rs.foldl gRule g)
  | [], n, g, h => by simpa using h
  | r :: rs, n, g, h => by
    have h2 : gAll (n + r.body.length) (gRule g r) := by
      intro q hq
      have := gAll_fold r.pred (r.body.filter isAtm) (gAll_key h r.pred) q hq
      have := List.length_filter_le isAtm r.body
      omega
    have := gAll_draw rs h2
    rw [show n + ((r :: rs).flatMap Rul.body).length = n + r.body.length + (rs.flatMap Rul.body).length from by simp; omega]
    exact this
theorem draw_spec {Z : Nat → Prop} {w0 w : World} {L : List Res} (st : St Z w0 w L) (rv : Value) (rs : List Rul) (hr : rRul.sl Z w0 rv rs) (HB : Bnd rs) : Calls Tryz.prog 26 #[(.agg #[rv])] w (Ret fun r w' => ∃ mb m Z' w1, Ext Z w0 Z' w1 ∧ r = .map (some mb) ∧ GF Z' w1 m (drawF rs) ∧ St Z' w1 w' (Mv mb m :: L)) := by
 have hal0 := Rl.sl_le hr
 refine calls_of_WC (m := 34) (rs := [.tmp 2]) Tryz.func26 rfl rfl rfl rfl ?_
 refine Wsr ?_
 refine W1 (OpT.box st (.agg #[rv]) [rv] rfl rfl (fun b1 w2 st3 => ?_))
 refine W1 (OpT.assign (.map none) rfl ?_)
 refine Wns ?_
 refine W1 (OpT.makeMap Value.string (fun v : Value => v) st3 (fun b4 w5 st6 => ?_))
 refine W1 (OpT.alloc st6 (.map none) [(.map none)] tz77 rfl (fun b7 w8 st9 => ?_))
 refine WL.stepN (OpT.storeS st9 0 (.map (some b4)) rfl ts77 rfl rfl rfl rfl rfl (fun w10 st11 => ?_))
 refine Wnt ?_
 refine WC.seq ?_
 refine Wsr ?_
 refine W1 (OpT.field 0 ⟨b1, 0, none⟩ ⟨b1, 0, none⟩ tf25_0 rfl rfl ?_)
 refine W1 (OpT.loadS ⟨b1, 0, none⟩ rv ta22 rfl (st11.cellB (i := 2) rfl rfl) ?_)
 refine W1 (OpT.lenR rfl tu22 hr rfl ?_)
 refine W1 (OpT.move (ii 0) rfl ?_)
 refine Wnt ?_
 refine WC.block ?_
 obtain ⟨gb, rfl⟩ : ∃ x, x = b7 := ⟨_, rfl⟩
 obtain ⟨mb, rfl⟩ : ∃ x, x = b4 := ⟨_, rfl⟩
 have st12 : St Z w0 w10 (Blk gb 77 [(.map (some mb))] :: Gra mb ([]) :: L) := St.selT [Gra mb [], Blk gb 77 [(.map (some mb))]] [1, 0] rfl (by decide) (St.graNil (St.selD 3 [1, 0] rfl rfl (by decide) st11))
 refine WC.loop (fun m ρ wz => ∃ (i : Nat), m = rs.length - i ∧ i ≤ rs.length ∧ ρ 12 = (ni i) ∧ ρ 3 = (pt gb 0) ∧ ρ 10 = rv ∧ ρ 11 = (ni (rs.length)) ∧ St Z w0 wz (Blk gb 77 [(.map (some mb))] :: Gra mb (drawF (rs.take i)) :: L)) _ ⟨0, rfl, by omega, rfl, rfl, rfl, rfl, st12⟩ ?_
 rintro m13 ρ14 w15 ⟨i, hm22, hp17, hs18, hs19, hs20, hs21, st16⟩
 refine Wsr ?_
 refine W1 (OpT.ilt .i64 (((i : Nat) : Int)) (((rs.length : Nat) : Int)) hs18 hs21 ?_)
 refine Wnt ?_
 refine WC.seq ?_
 refine WC.condP (((i : Nat) : Int) < ((rs.length : Nat) : Int)) rfl (fun h23 => ?_) (fun h23 => ?_)
 ·refine WC.skip ?_
  refine thenQ_n ?_
  refine WC.seq ?_
  refine WC.block ?_
  refine Wsr ?_
  obtain ⟨x24, hx24⟩ : ∃ x, (rs)[i]? = some x := ⟨_, List.getElem?_eq_getElem (by omega)⟩
  refine W1 (OpT.idxX tu22 ts54 hr hs20 .i64 (i) hs18 hx24 (fun ad25 cs26 hr27 hR28 => ?_))
  have hR28c := hR28
  obtain ⟨hv29, bv30, rfl, hh31, hb32⟩ := hR28
  refine W1 (OpT.loadA ad25 3 [(.string x24.pred), hv29, bv30] ta54 ts54 rfl ((hr27.at st16).part 0 3) rfl ?_)
  refine W1 (OpT.alloc st16 (.agg #[ve, vn, vn]) [ve, vn, vn] tz54 rfl (fun b33 w34 st35 => ?_))
  refine WL.stepN (OpT.storeA st35 0 3 [(.string x24.pred), hv29, bv30] rfl ts54 rfl rfl (aC rfl (aC (Rl.sl_one hh31) (aC (Rl.sl_one hb32) aN))) rfl rfl (fun w36 st37 => ?_))
  refine Wnt ?_
  refine WC.seq ?_
  refine WC.seq ?_
  obtain ⟨e38, he39, st40⟩ := St.gra ((St.selD 3 [2, 0, 1] rfl rfl (by decide) st37) : St Z w0 w36 (Gra mb (drawF (rs.take i)) :: Blk b33 54 [(.string x24.pred), hv29, bv30] :: Blk gb 77 [(.map (some mb))] :: L))
  have st41 : St Z w0 w36 (Mv mb (enM e38) :: Blk b33 54 [(.string x24.pred), hv29, bv30] :: Blk gb 77 [(.map (some mb))] :: (enR e38 ++ L)) := St.perm (List.Perm.cons _ (List.perm_append_comm_assoc (enR e38) [Blk b33 54 [(.string x24.pred), hv29, bv30], Blk gb 77 [(.map (some mb))]] L)) st40
  refine WC.region ?_
  refine W1 (OpT.loadS ⟨gb, 0, none⟩ (.map (some mb)) ta77 hs19 (st41.cellB (i := 2) rfl rfl) ?_)
  refine W1 (OpT.field 0 ⟨b33, 0, none⟩ ⟨b33, 0, none⟩ tf54_0 rfl rfl ?_)
  refine W1 (OpT.loadS ⟨b33, 0, none⟩ (.string x24.pred) ta9 rfl (st41.cellB (i := 1) rfl rfl) ?_)
  refine W1 (OpT.lookupOkV st41 0 rfl ko9 tu77 tz37 (x24.pred) rfl rfl ?_)
  refine W1 (OpT.move (.tuple #[((mget (enM e38) x24.pred).getD vn), (.bool ((mget (enM e38) x24.pred).isSome))]) rfl ?_)
  refine W1 (OpT.extract [((mget (enM e38) x24.pred).getD vn), (.bool ((mget (enM e38) x24.pred).isSome))] ((mget (enM e38) x24.pred).getD vn) rfl rfl ?_)
  refine W1 (OpT.extract [((mget (enM e38) x24.pred).getD vn), (.bool ((mget (enM e38) x24.pred).isSome))] (.bool ((mget (enM e38) x24.pred).isSome)) rfl rfl ?_)
  refine W1 (OpT.assign ((mget (enM e38) x24.pred).getD vn) rfl ?_)
  refine W1 (OpT.assign (.bool ((mget (enM e38) x24.pred).isSome)) rfl ?_)
  refine Wns ?_
  refine W1 (OpT.move (.bool ((mget (enM e38) x24.pred).isSome)) rfl ?_)
  refine W1 (OpT.not ((mget (enM e38) x24.pred).isSome) rfl ?_)
  refine Wnt ?_
  refine WC.cond ((!((mget (enM e38) x24.pred).isSome))) rfl (fun h43 => ?_) (fun h43 => ?_)
  ·refine WC.region ?_
   refine W1 (OpT.loadS ⟨gb, 0, none⟩ (.map (some mb)) ta77 hs19 (st41.cellB (i := 2) rfl rfl) ?_)
   refine W1 (OpT.field 0 ⟨b33, 0, none⟩ ⟨b33, 0, none⟩ tf54_0 rfl rfl ?_)
   refine W1 (OpT.loadS ⟨b33, 0, none⟩ (.string x24.pred) ta9 rfl (st41.cellB (i := 1) rfl rfl) ?_)
   refine WL.stepN (OpT.mapSet st41 0 rfl ko9 tu77 (x24.pred) (vn) rfl rfl rfl (fun w44 st45 => ?_))
   refine Wnt ?_
   have hb46 : (mget (enM e38) x24.pred).isSome = false := by simpa using h43
   have st48 : gKey (drawF (rs.take i)) x24.pred = mset (enG e38) x24.pred [] := by unfold gKey; rw [← he39, ← en_some, hb46]; rfl
   have st47 : St Z w0 w44 (Gra mb (gKey (drawF (rs.take i)) x24.pred) :: Blk b33 54 [(.string x24.pred), hv29, bv30] :: Blk gb 77 [(.map (some mb))] :: L) := by rw [st48]; exact St.graNew hb46 (St.perm (List.Perm.cons _ (List.perm_append_comm_assoc (enR e38) [Blk b33 54 [(.string x24.pred), hv29, bv30], Blk gb 77 [(.map (some mb))]] L).symm) st45)
   refine WC.region ?_
   refine W1 (OpT.field 2 ⟨b33, 0, none⟩ ⟨b33, 2, none⟩ tf54_2 rfl rfl ?_)
   refine W1 (OpT.loadS ⟨b33, 2, none⟩ bv30 ta52 rfl (st47.cellB (i := 1) rfl rfl) ?_)
   refine W1 (OpT.makeFunc [] [(pt gb 0), (pt b33 0)] mk0 (mk2 hs19 rfl) ?_)
   have st49 : St Z w0 w44 (DJ gb mb b33 x24.pred hv29 bv30 (gKey (drawF (rs.take i)) x24.pred) ++ L) := (St.selD 3 [2, 1, 0] rfl rfl (by decide) st47)
   have hbx := HB.at hx24
   refine W1 (OpT.callS cal24 [] [] [bv30, (.func (.func 48) #[] #[(pt gb 0), (pt b33 0)])] rfl (ca2 rfl rfl) (atoms_spec (fun g lv => DJ gb mb b33 x24.pred hv29 bv30 g) (gStep x24.pred) (gKey (drawF (rs.take i)) x24.pred) vn st49 bv30 x24.body hb32 48 cal48 [(pt gb 0), (pt b33 0)] (fun L2 w2 j z lv2 hz hza cs2 hR st2 => by obtain ⟨a2, l2, r2, rfl, q1, q2, q3⟩ := hR; exact draw1_spec hh31 hb32 st2 (fold_has _ _ _ _ (by rw [gHas_key]; simp)) (by unfold fld; rw [fold_suc, gSuc_key, if_pos rfl, List.length_append, List.length_map]; have h1 := draw_len (rs.take i) [] x24.pred; have h2 := List.length_filter_le isAtm (x24.body.take j); rw [List.length_take] at h2; have h3 : (gSuc [] x24.pred).length = 0 := rfl; unfold drawF; omega) z a2 l2 r2 q1 q2 q3)) ?_)
   rintro v50 w51 ⟨rfl, _, st52⟩
   replace st52 : St Z w0 w51 (Blk gb 77 [(.map (some mb))] :: Blk b33 54 [(.string x24.pred), hv29, bv30] :: Gra mb (gRule (drawF (rs.take i)) x24) :: L) := st52
   refine WL.nil ?_
   refine blkQ_n ?_
   refine thenQ_n ?_
   refine WC.region ?_
   refine W1 (OpT.iadd .i64 (((i : Nat) : Int)) (1) (((i + 1 : Nat) : Int)) hs18 rfl (wadd (a := i) (b := 1) (by omega)) ?_)
   refine W1 (OpT.move (ni (i + 1)) rfl ?_)
   refine WL.nil ?_
   have st53 : St Z w0 w51 (Blk gb 77 [(.map (some mb))] :: Gra mb (drawF (rs.take (i + 1))) :: L) := by rw [draw_step hx24]; exact (St.selD 3 [0, 2] rfl rfl (by decide) st52)
   exact loopQ_n _ (by omega) ⟨i + 1, rfl, by omega, rfl, hs19, hs20, hs21, st53⟩
  refine WC.skip ?_
  refine thenQ_n ?_
  have hb54 : (mget (enM e38) x24.pred).isSome = true := by simpa using h43
  have st56 : gKey (drawF (rs.take i)) x24.pred = enG e38 := by unfold gKey; rw [← he39, ← en_some, hb54]; rfl
  have st55 : St Z w0 w36 (Gra mb (gKey (drawF (rs.take i)) x24.pred) :: Blk b33 54 [(.string x24.pred), hv29, bv30] :: Blk gb 77 [(.map (some mb))] :: L) := by rw [st56]; exact St.graI (St.perm (List.Perm.cons _ (List.perm_append_comm_assoc (enR e38) [Blk b33 54 [(.string x24.pred), hv29, bv30], Blk gb 77 [(.map (some mb))]] L).symm) st41)
  refine WC.region ?_
  refine W1 (OpT.field 2 ⟨b33, 0, none⟩ ⟨b33, 2, none⟩ tf54_2 rfl rfl ?_)
  refine W1 (OpT.loadS ⟨b33, 2, none⟩ bv30 ta52 rfl (st55.cellB (i := 1) rfl rfl) ?_)
  refine W1 (OpT.makeFunc [] [(pt gb 0), (pt b33 0)] mk0 (mk2 hs19 rfl) ?_)
  have st57 : St Z w0 w36 (DJ gb mb b33 x24.pred hv29 bv30 (gKey (drawF (rs.take i)) x24.pred) ++ L) := (St.selD 3 [2, 1, 0] rfl rfl (by decide) st55)
  have hbx := HB.at hx24
  refine W1 (OpT.callS cal24 [] [] [bv30, (.func (.func 48) #[] #[(pt gb 0), (pt b33 0)])] rfl (ca2 rfl rfl) (atoms_spec (fun g lv => DJ gb mb b33 x24.pred hv29 bv30 g) (gStep x24.pred) (gKey (drawF (rs.take i)) x24.pred) vn st57 bv30 x24.body hb32 48 cal48 [(pt gb 0), (pt b33 0)] (fun L2 w2 j z lv2 hz hza cs2 hR st2 => by obtain ⟨a2, l2, r2, rfl, q1, q2, q3⟩ := hR; exact draw1_spec hh31 hb32 st2 (fold_has _ _ _ _ (by rw [gHas_key]; simp)) (by unfold fld; rw [fold_suc, gSuc_key, if_pos rfl, List.length_append, List.length_map]; have h1 := draw_len (rs.take i) [] x24.pred; have h2 := List.length_filter_le isAtm (x24.body.take j); rw [List.length_take] at h2; have h3 : (gSuc [] x24.pred).length = 0 := rfl; unfold drawF; omega) z a2 l2 r2 q1 q2 q3)) ?_)
  rintro v58 w59 ⟨rfl, _, st60⟩
  replace st60 : St Z w0 w59 (Blk gb 77 [(.map (some mb))] :: Blk b33 54 [(.string x24.pred), hv29, bv30] :: Gra mb (gRule (drawF (rs.take i)) x24) :: L) := st60
  refine WL.nil ?_
  refine blkQ_n ?_
  refine thenQ_n ?_
  refine WC.region ?_
  refine W1 (OpT.iadd .i64 (((i : Nat) : Int)) (1) (((i + 1 : Nat) : Int)) hs18 rfl (wadd (a := i) (b := 1) (by omega)) ?_)
  refine W1 (OpT.move (ni (i + 1)) rfl ?_)
  refine WL.nil ?_
  have st61 : St Z w0 w59 (Blk gb 77 [(.map (some mb))] :: Gra mb (drawF (rs.take (i + 1))) :: L) := by rw [draw_step hx24]; exact (St.selD 3 [0, 2] rfl rfl (by decide) st60)
  exact loopQ_n _ (by omega) ⟨i + 1, rfl, by omega, rfl, hs19, hs20, hs21, st61⟩
 refine WC.exit ?_
 refine thenQ_x ?_
 refine loopQ_x ?_
 refine blkQ_hit ?_
 refine thenQ_n ?_
 refine Wsr ?_
 refine W1 (OpT.loadS ⟨gb, 0, none⟩ (.map (some mb)) ta77 hs19 (st16.cellB (i := 0) rfl rfl) ?_)
 refine W1 (OpT.assign (.map (some mb)) rfl ?_)
 refine Wnt ?_
 refine WC.ret <| retQ.one (.map (some mb)) rfl ?_
 have eT : rs.take i = rs := List.take_of_length_le (by omega)
 rw [eT] at st16
 obtain ⟨Z2, m2, hx2, hg2, st9⟩ := St.graF (St.selT [Blk gb 77 [(.map (some mb))], Gra mb (drawF rs)] [1] rfl (by decide) st16) (fun p hp => by have := gAll_draw rs (n := 0) (g := []) (fun p h => by cases h) p hp; have := HB.b; omega)
 exact ⟨_, rfl, mb, m2, Z2, _, hx2, rfl, hg2, st9⟩

end Go.Ped
set_option linter.unusedVariables false
set_option maxRecDepth 20000
namespace Go.Ped
open Go Go.Eng Go.RowKit Go.Proofs

open Go.Maps Go.Sort
def tlB (x : ByteArray) : List UInt8 := x.data.toList
def leS (a b : ByteArray) : Bool := leB (tlB a) (tlB b)
def insS (x : ByteArray) : List ByteArray → List ByteArray
  | [] => [x]
  | y :: l => if leS x y then x :: y :: l else y :: insS x l
def isort : List ByteArray → List ByteArray
  | [] => []
  | x :: l => insS x (isort l)
theorem insS_perm (x : ByteArray) : ∀ l, (insS x l).Perm (x :: l)
  | [] => List.Perm.refl _
  | y :: l => by
    unfold insS
    split
    · exact List.Perm.refl _
    · exact ((insS_perm x l).cons y).trans (List.Perm.swap x y l)
theorem isort_perm : ∀ l, (isort l).Perm l
  | [] => List.Perm.refl _
  | x :: l => (insS_perm x (isort l)).trans ((isort_perm l).cons x)
theorem leS_total (a b : ByteArray) : leS a b = true ∨ leS b a = true := by
  have := List.le_total (tlB a) (tlB b)
  simpa [leS, leB] using this
theorem leS_trans {a b c : ByteArray} (h : leS a b = true) (g : leS b c = true) : leS a c = true := by
  simp only [leS, leB, decide_eq_true_eq] at *
  exact List.le_trans h g
theorem insS_sorted (x : ByteArray) : ∀ l, l.Pairwise (fun a b => leS a b = true) → (insS x l).Pairwise (fun a b => leS a b = true)
  | [], _ => by simp [insS]
  | y :: l, h => by
    have h' := List.pairwise_cons.1 h
    unfold insS
    split
    · rename_i hxy
      refine List.pairwise_cons.2 ⟨fun z hz => ?_, h⟩
      rcases List.mem_cons.1 hz with rfl | hz
      · exact hxy
      · exact leS_trans hxy (h'.1 z hz)
    · rename_i hxy
      refine List.pairwise_cons.2 ⟨fun z hz => ?_, insS_sorted x l h'.2⟩
      rcases List.mem_cons.1 ((insS_perm x l).mem_iff.1 hz) with rfl | hz
      · rcases leS_total z y with h1 | h1
        · exact absurd h1 hxy
        · exact h1
      · exact h'.1 z hz
theorem isort_sorted : ∀ l, (isort l).Pairwise (fun a b => leS a b = true)
  | [] => List.Pairwise.nil
  | x :: l => insS_sorted x _ (isort_sorted l)
theorem tlB_inj {a b : ByteArray} (h : tlB a = tlB b) : a = b := by
  cases a; cases b; simpa [tlB] using h
theorem sorted_strs (xs : List ByteArray) : ((xs.map tlB).mergeSort leB).map encStr = (isort xs).map Value.string := by
  rw [mergeSort_of_perm ((isort_perm xs).symm.map tlB), List.mergeSort_of_pairwise]
  · rw [List.map_map]
    exact List.map_congr_left (fun x _ => rfl)
  · exact List.pairwise_map.2 (isort_sorted xs)
theorem isort_len (l : List ByteArray) : (isort l).length = l.length := (isort_perm l).length_eq
theorem Index_spec {Z : Nat → Prop} {w0 w : World} {L : List Res} (st : St Z w0 w L) {v : Value} {xs : List ByteArray} (h : rStr.sl Z w0 v xs) (x : ByteArray) : Calls Tryz.prog 50 #[v, (.string x)] w (Ret fun r w' => r = .int .i64 (idxOf (fun y => decide (x = y)) xs) ∧ St Z w0 w' L) := by
 refine calls_of_WC (m := 19) (rs := [.tmp 4]) Tryz.func50 rfl rfl rfl rfl ?_
 refine Wsr ?_
 refine W1 (OpT.assign (ii 0) rfl ?_)
 refine Wnt ?_
 refine WC.seq ?_
 refine Wsr ?_
 refine W1 (OpT.move v rfl ?_)
 refine W1 (OpT.lenR rfl tu37 h rfl ?_)
 refine W1 (OpT.move (ii 0) rfl ?_)
 refine Wnt ?_
 refine WC.block ?_
 refine WC.loop (fun m ρ wz => ∃ (i : Nat), m = xs.length - i ∧ i ≤ xs.length ∧ Hid (∀ (j : Nat) y, j < i → xs[j]? = some y → decide (x = y) = false) ∧ ρ 8 = (ni i) ∧ ρ 0 = v ∧ ρ 1 = (.string x) ∧ ρ 7 = (ni (xs.length)) ∧ St Z w0 wz (L)) _ ⟨0, rfl, by omega, fun j y hj => absurd hj (Nat.not_lt_zero _), rfl, rfl, rfl, rfl, st⟩ ?_
 rintro m1 ρ2 w3 ⟨i, hm10, hp5, HP, hs6, hs7, hs8, hs9, st4⟩
 have hxl := Rl.sl_le h
 refine Wsr ?_
 refine W1 (OpT.ilt .i64 (((i : Nat) : Int)) (((xs.length : Nat) : Int)) hs6 hs9 ?_)
 refine Wnt ?_
 refine WC.seq ?_
 refine WC.condP (((i : Nat) : Int) < ((xs.length : Nat) : Int)) rfl (fun h11 => ?_) (fun h11 => ?_)
 ·refine WC.skip ?_
  refine thenQ_n ?_
  refine WC.seq ?_
  refine WC.block ?_
  refine Wsr ?_
  refine W1 (OpT.move (ni i) hs6 ?_)
  refine W1 (OpT.assign (ni i) rfl ?_)
  refine Wns ?_
  refine W1 (OpT.move (.string x) hs8 ?_)
  refine W1 (OpT.move v hs7 ?_)
  refine W1 (OpT.move (ni i) rfl ?_)
  obtain ⟨x12, hx12⟩ : ∃ x, (xs)[i]? = some x := ⟨_, List.getElem?_eq_getElem (by omega)⟩
  refine W1 (OpT.idxX tu37 ts9 h rfl .i64 (i) rfl hx12 (fun ad13 cs14 hr15 hR16 => ?_))
  have hR16c := hR16
  obtain rfl := hR16
  refine W1 (OpT.loadS ad13 (.string x12) ta9 rfl (hr15.cell st4 (j := 0) rfl) ?_)
  refine W1 (OpT.seq (x) (x12) rfl rfl ?_)
  refine Wnt ?_
  refine WC.condP (x = x12) rfl (fun h17 => ?_) (fun h17 => ?_)
  ·refine WC.seq ?_
   refine WC.region ?_
   refine W1 (OpT.move (ni i) rfl ?_)
   refine W1 (OpT.assign (ni i) rfl ?_)
   refine Wnt ?_
   refine WC.ret <| blkQ_r <| thenQ_r <| loopQ_r <| blkQ_r <| thenQ_r <| retQ.one (ni i) rfl ?_
   exact ⟨_, rfl, by rw [idxOf_some _ xs i _ hx12 HP.out (decide_eq_true h17)], st4⟩
  refine WC.skip ?_
  refine blkQ_n ?_
  refine thenQ_n ?_
  refine WC.region ?_
  refine W1 (OpT.iadd .i64 (((i : Nat) : Int)) (1) (((i + 1 : Nat) : Int)) hs6 rfl (wadd (a := i) (b := 1) (by omega)) ?_)
  refine W1 (OpT.move (ni (i + 1)) rfl ?_)
  refine WL.nil ?_
  exact loopQ_n _ (by omega) ⟨i + 1, rfl, by omega, fun j y hj hx => by
    rcases Nat.lt_succ_iff_lt_or_eq.1 hj with hj | rfl
    · exact HP.out j y hj hx
    · rw [hx12] at hx; cases hx; exact decide_eq_false h17, rfl, hs7, hs8, hs9, st4⟩
 refine WC.exit ?_
 refine thenQ_x ?_
 refine loopQ_x ?_
 refine blkQ_hit ?_
 refine thenQ_n ?_
 refine Wsr ?_
 refine W1 (OpT.assign (ii (-1)) rfl ?_)
 refine Wnt ?_
 refine WC.ret <| retQ.one (ii (-1)) rfl ?_
 exact ⟨_, rfl, by rw [idxOf_none _ xs (fun j y hj hx => HP.out j y (by omega) hx)], st4⟩

theorem Values_spec {Z : Nat → Prop} {w0 w : World} {L : List Res} (st : St Z w0 w L) (A : Option Addr) (n c : Nat) : Calls Tryz.prog 52 #[(.slice A n c)] w (Ret fun r w' => ∃ B, r = .func (.func 77) #[] #[.pointer (some ⟨B, 0, none⟩)] ∧ St Z w0 w' (Blk B 37 [.slice A n c] :: L)) := by
 refine calls_of_WC (m := 4) (rs := [.tmp 2]) Tryz.func52 rfl rfl rfl rfl ?_
 refine Wsr ?_
 refine W1 (OpT.box st (.slice A n c) [(.slice A n c)] rfl rfl (fun b1 w2 st3 => ?_))
 refine W1 (OpT.assign .nilFunc rfl ?_)
 refine Wns ?_
 refine W1 (OpT.makeFunc [] [(pt b1 0)] mk0 (mk1 rfl) ?_)
 refine W1 (OpT.assign (.func (.func 77) #[] #[(pt b1 0)]) rfl ?_)
 refine Wnt ?_
 refine WC.ret <| retQ.one (.func (.func 77) #[] #[(pt b1 0)]) rfl ?_
 exact ⟨_, rfl, _, rfl, st3⟩

end Go.Ped
set_option linter.unusedVariables false
set_option maxRecDepth 20000
namespace Go.Ped
open Go Go.Eng Go.RowKit Go.Proofs

theorem ta111 : aggB Tryz.prog 111 = some false := by kernel_rfl
theorem cal49 : CallOk Tryz.prog 49 := ⟨⟨Tryz.f49, Tryz.func49, rfl, by decide⟩⟩
theorem cal50 : CallOk Tryz.prog 50 := ⟨⟨Tryz.f50, Tryz.func50, rfl, by decide⟩⟩
theorem cal52 : CallOk Tryz.prog 52 := ⟨⟨Tryz.f52, Tryz.func52, rfl, by decide⟩⟩
theorem ta80 : aggB Tryz.prog 80 = some false := by kernel_rfl
theorem tu80 : Tryz.prog.underlying 80 = some (.slice 37) := by kernel_rfl
theorem tb37 : (Tryz.prog.info? 37).map (·.bytes) = some 24 := by kernel_rfl
theorem ts80 : sizeB Tryz.prog 80 = some 1 := by kernel_rfl
abbrev Mi (b : Nat) (m : List (ByteArray × Int)) : Res := Mp Value.string (Value.int .i64) b m
structure TS where
  low : List (ByteArray × Int)
  inn : List (ByteArray × Int)
  stk : List ByteArray
  out : List (List ByteArray)
def vStep (rec : ByteArray → TS → Option (Int × TS)) (q : Int × TS) (t : ByteArray) : Option (Int × TS) :=
  if (mget q.2.inn t).isSome then some q
  else if (mget q.2.low t).isSome then some (if (mget q.2.low t).getD 0 < q.1 then (mget q.2.low t).getD 0 else q.1, q.2)
  else (rec t q.2).map fun p => (if p.1 < q.1 then p.1 else q.1, p.2)
def vIn (s : ByteArray) (σ : TS) : TS := ⟨mset σ.low s ((σ.low.length + 1 : Nat) : Int), σ.inn, σ.stk ++ [s], σ.out⟩
def vAt (s : ByteArray) (l : List ByteArray) : Nat := (l.findIdx? (fun y => decide (s = y))).getD 0
def vPart (s : ByteArray) (σ : TS) : List ByteArray := isort (σ.stk.drop (vAt s σ.stk))
def inPut (m : List (ByteArray × Int)) (n : Nat) (l : List ByteArray) : List (ByteArray × Int) := l.foldl (fun m t => mset m t (n : Int)) m
def vOut (s : ByteArray) (mine : Int) (q : Int × TS) : Option (Int × TS) :=
  if q.1 < mine then some (q.1, ⟨mset q.2.low s q.1, q.2.inn, q.2.stk, q.2.out⟩)
  else if s ∈ q.2.stk ∧ q.2.stk.length < 2097152 ∧ q.2.out.length < 2097151 then some (mine, ⟨q.2.low, inPut q.2.inn q.2.out.length (vPart s q.2), q.2.stk.take (vAt s q.2.stk), q.2.out ++ [vPart s q.2]⟩)
  else none
def visitF (g : Gm) : Nat → ByteArray → TS → Option (Int × TS)
  | 0, _, _ => none
  | n + 1, s, σ =>
    if σ.stk.length < 2097151 ∧ σ.low.length < 2097151 then ((gSuc g s).foldlM (vStep (visitF g n)) (((σ.low.length + 1 : Nat) : Int), vIn s σ)).bind (vOut s ((σ.low.length + 1 : Nat) : Int))
    else none
theorem fold_at {α β : Type} {f : β → α → Option β} {xs : List α} {q0 q fin : β} {i : Nat} {x : α} (hall : xs.foldlM f q0 = some fin) (hq : (xs.take i).foldlM f q0 = some q) (hx : xs[i]? = some x) : ∃ q', f q x = some q' ∧ (xs.take (i + 1)).foldlM f q0 = some q' := by
  obtain ⟨h1, h2⟩ := List.getElem?_eq_some_iff.1 hx
  have e1 : (xs.take (i + 1)).foldlM f q0 = f q x := by
    rw [List.take_add_one, hx, List.foldlM_append, hq]
    simp
  have e2 : xs = xs.take (i + 1) ++ xs.drop (i + 1) := (List.take_append_drop _ _).symm
  rw [e2, List.foldlM_append, e1] at hall
  cases hf : f q x with
  | none => rw [hf] at hall; cases hall
  | some q' => exact ⟨q', rfl, e1.trans hf⟩
theorem vAt_eq {s : ByteArray} {l : List ByteArray} (h : s ∈ l) : idxOf (fun y => decide (s = y)) l = ((vAt s l : Nat) : Int) ∧ vAt s l < l.length := by
  unfold idxOf vAt
  cases hf : l.findIdx? (fun y => decide (s = y)) with
  | none =>
    have := List.findIdx?_eq_none_iff.1 hf s h
    simp at this
  | some j =>
    obtain ⟨hj, _⟩ := List.findIdx?_eq_some_iff_getElem.1 hf
    exact ⟨rfl, hj⟩
theorem inPut_step {l : List ByteArray} {m : List (ByteArray × Int)} {n i : Nat} {x : ByteArray} (hx : l[i]? = some x) : mset (inPut m n (l.take i)) x (n : Int) = inPut m n (l.take (i + 1)) := by
  rw [List.take_add_one, hx, inPut, inPut, List.foldl_append]; rfl
theorem visit_inv {g : Gm} {n : Nat} {s : ByteArray} {σ σ' : TS} {r : Int} (h : visitF g (n + 1) s σ = some (r, σ')) : σ.stk.length < 2097151 ∧ σ.low.length < 2097151 ∧ ∃ le σ2, (gSuc g s).foldlM (vStep (visitF g n)) (((σ.low.length + 1 : Nat) : Int), vIn s σ) = some (le, σ2) ∧
    vOut s ((σ.low.length + 1 : Nat) : Int) (le, σ2) = some (r, σ') := by
  unfold visitF at h
  split at h
  · rename_i hb
    refine ⟨hb.1, hb.2, ?_⟩
    cases hf : (gSuc g s).foldlM (vStep (visitF g n)) (((σ.low.length + 1 : Nat) : Int), vIn s σ) with
    | none => rw [hf] at h; cases h
    | some q => rw [hf] at h; exact ⟨q.1, q.2, rfl, h⟩
  · cases h
theorem vOut_lt {s : ByteArray} {mine le r : Int} {σ σ' : TS} (h : vOut s mine (le, σ) = some (r, σ')) (hl : le < mine) : le = r ∧ σ' = ⟨mset σ.low s le, σ.inn, σ.stk, σ.out⟩ := by
  unfold vOut at h
  rw [if_pos hl] at h
  cases h; exact ⟨rfl, rfl⟩
theorem vOut_ge {s : ByteArray} {mine le r : Int} {σ σ' : TS} (h : vOut s mine (le, σ) = some (r, σ')) (hl : ¬ le < mine) : s ∈ σ.stk ∧ σ.stk.length < 2097152 ∧ σ.out.length < 2097151 ∧ r = mine ∧ σ' = ⟨σ.low, inPut σ.inn σ.out.length (vPart s σ), σ.stk.take (vAt s σ.stk), σ.out ++ [vPart s σ]⟩ := by
  unfold vOut at h
  rw [if_neg hl] at h
  split at h
  · rename_i hb; cases h; exact ⟨hb.1, hb.2.1, hb.2.2, rfl, rfl⟩
  · cases h
theorem sliced_at {g l n c : Nat} (h : c ≠ l) : sliced (some ⟨g, 0, none⟩) l n c 1 = .slice (some ⟨g, l, none⟩) (n - l) (c - l) := by
  unfold sliced
  rw [if_neg h]
  simp [Addr.add]
  exact fun h => h.symm
abbrev rSls : Rl (List ByteArray) := Rl.list rStr
abbrev PJ (lb lm sb gb mb ib im vb ob : Nat) (mv : List (ByteArray × Value)) (sv ov : Value) (cells : List Value) (σ : TS) (L : List Res) : List Res :=
  Blk lb 79 [(.map (some lm))] :: Mi lm σ.low :: Blk sb 37 [sv] :: Row 9 1 sv σ.stk.length (σ.stk.map Value.string) :: Blk gb 77 [(.map (some mb))] :: Mv mb mv :: Blk ib 79 [(.map (some im))] :: Mi im σ.inn :: Blk vb 111 [(.func (.func 49) #[] #[(.pointer (some ⟨lb, 0, none⟩)), (.pointer (some ⟨sb, 0, none⟩)), (.pointer (some ⟨gb, 0, none⟩)), (.pointer (some ⟨ib, 0, none⟩)), (.pointer (some ⟨vb, 0, none⟩)), (.pointer (some ⟨ob, 0, none⟩))])] :: Blk ob 80 [ov] :: Row 37 1 ov σ.out.length cells :: L
theorem visit_step {g : Gm} {lb lm sb gb mb ib im vb ob : Nat} {mv : List (ByteArray × Value)} (n : Nat) (ih : ∀ (s : ByteArray) (σ : TS) (r : Int) (σ2 : TS), visitF g n s σ = some (r, σ2) → ∀ {Z : Nat → Prop} {w0 w : World} {L : List Res} {sv ov : Value} {cells : List Value} (hg : GF Z w0 mv g) (hR : RowsOf (rSls.R Z w0) 1 cells σ.out) (st : St Z w0 w (PJ lb lm sb gb mb ib im vb ob mv sv ov cells σ L)), Calls Tryz.prog 49 #[.string s, (pt lb 0), (pt sb 0), (pt gb 0), (pt ib 0), (pt vb 0), (pt ob 0)] w (Ret fun u w' => u = .int .i64 r ∧ ∃ (Z1 : Nat → Prop) (w1 : World) (sv ov : Value) (cells : List Value), Ext Z w0 Z1 w1 ∧ RowsOf (rSls.R Z1 w1) 1 cells σ2.out ∧ St Z1 w1 w' (PJ lb lm sb gb mb ib im vb ob mv sv ov cells σ2 L))) (s : ByteArray) (σ : TS) (r : Int) (σ3 : TS) (hv : visitF g (n + 1) s σ = some (r, σ3)) {Z : Nat → Prop} {w0 w : World} {L : List Res} {sv ov : Value} {cells : List Value} (hg : GF Z w0 mv g) (hR : RowsOf (rSls.R Z w0) 1 cells σ.out) (st : St Z w0 w (PJ lb lm sb gb mb ib im vb ob mv sv ov cells σ L)) : Calls Tryz.prog 49 #[(.string s), (pt lb 0), (pt sb 0), (pt gb 0), (pt ib 0), (pt vb 0), (pt ob 0)] w (Ret fun u w' => u = .int .i64 r ∧ ∃ (Z1 : Nat → Prop) (w1 : World) (sv ov : Value) (cells : List Value), Ext Z w0 Z1 w1 ∧ RowsOf (rSls.R Z1 w1) 1 cells σ3.out ∧ St Z1 w1 w' (PJ lb lm sb gb mb ib im vb ob mv sv ov cells σ3 L)) := by
 obtain ⟨hs1, hs2, le2, σ2, hall, hvo⟩ := visit_inv hv
 have hal0 := Rl.sl_le (hg.rd s)
 replace hal0 : (gSuc g s).length ≤ 140737488355328 := hal0
 have osv := st.rowOne (i := 3) rfl
 have csv := st.rowCel (i := 3) rfl
 have oov := st.rowOne (i := 10) rfl
 have cov := st.rowCel (i := 10) rfl
 refine calls_of_WC (m := 97) (rs := [.tmp 8]) Tryz.func49 rfl rfl rfl rfl ?_
 refine Wsr ?_
 refine W1 (OpT.assign (ii 0) rfl ?_)
 refine Wns ?_
 refine W1 (OpT.loadS ⟨lb, 0, none⟩ (.map (some lm)) ta79 rfl (st.cellB (i := 0) rfl rfl) ?_)
 refine W1 (OpT.lenMap st 1 rfl rfl tu79 rfl ?_)
 refine W1 (OpT.iadd .i64 (((σ.low.length : Nat) : Int)) (1) (((σ.low.length + 1 : Nat) : Int)) rfl rfl (wadd (a := σ.low.length) (b := 1) (by omega)) ?_)
 refine W1 (OpT.assign (ni (σ.low.length + 1)) rfl ?_)
 refine Wns ?_
 refine W1 (OpT.loadS ⟨lb, 0, none⟩ (.map (some lm)) ta79 rfl (st.cellB (i := 0) rfl rfl) ?_)
 refine W1 (OpT.move (.string s) rfl ?_)
 refine W1 (OpT.move (ni (σ.low.length + 1)) rfl ?_)
 refine WL.stepN (OpT.mapSet st 1 rfl ko9 tu79 (s) (((σ.low.length + 1 : Nat) : Int)) rfl rfl rfl (fun w1 st2 => ?_))
 refine Wns ?_
 refine W1 (OpT.move (ni (σ.low.length + 1)) rfl ?_)
 refine W1 (OpT.assign (ni (σ.low.length + 1)) rfl ?_)
 refine Wns ?_
 refine W1 (OpT.loadS ⟨sb, 0, none⟩ sv ta37 rfl (st2.cellB (i := 2) rfl rfl) ?_)
 refine W1 (OpT.move (.string s) rfl ?_)
 refine W1 (OpT.buildSlice st2 [(0, (.string s))] [(.string s)] tu37 ts9 tz9 (mp1 rfl) (by kernel_rfl) (by decide) (fun b3 w4 st5 => ?_))
 have st6 : St Z w0 w4 (Blk b3 9 [(.string s)] :: Row 9 1 sv σ.stk.length (σ.stk.map Value.string) :: Blk lb 79 [(.map (some lm))] :: Mp Value.string (Value.int .i64) lm (mset σ.low s ((σ.low.length + 1 : Nat) : Int)) :: Blk sb 37 [sv] :: Blk gb 77 [(.map (some mb))] :: Mv mb mv :: Blk ib 79 [(.map (some im))] :: Mi im σ.inn :: Blk vb 111 [(.func (.func 49) #[] #[(pt lb 0), (pt sb 0), (pt gb 0), (pt ib 0), (pt vb 0), (pt ob 0)])] :: Blk ob 80 [ov] :: Row 37 1 ov σ.out.length cells :: L) := St.selT [Blk b3 9 [(.string s)], Blk lb 79 [(.map (some lm))], Mp Value.string (Value.int .i64) lm (mset σ.low s ((σ.low.length + 1 : Nat) : Int)), Blk sb 37 [sv], Row 9 1 sv σ.stk.length (σ.stk.map Value.string), Blk gb 77 [(.map (some mb))], Mv mb mv, Blk ib 79 [(.map (some im))], Mi im σ.inn, Blk vb 111 [(.func (.func 49) #[] #[(pt lb 0), (pt sb 0), (pt gb 0), (pt ib 0), (pt vb 0), (pt ob 0)])], Blk ob 80 [ov], Row 37 1 ov σ.out.length cells] [0, 4, 1, 2, 3, 5, 6, 7, 8, 9, 10, 11] rfl (by decide) st5
 refine W1 (OpT.append st6 1 tu37 ts9 tz9 rfl tb9 (by decide) rfl rfl rfl rfl (by omega) (by omega) (fun v7 w8 st9 hn10 => ?_))
 have o11 := st9.rowOne (i := 0) rfl
 have c12 := st9.rowCel (i := 0) rfl
 refine WL.stepN (OpT.storeS st9 3 v7 rfl ts37 rfl rfl o11 c12 rfl (fun w13 st14 => ?_))
 refine Wnt ?_
 refine WC.seq ?_
 refine Wsr ?_
 refine W1 (OpT.loadS ⟨gb, 0, none⟩ (.map (some mb)) ta77 rfl (st14.cellB (i := 4) rfl rfl) ?_)
 refine W1 (OpT.move (.string s) rfl ?_)
 refine W1 (OpT.lookupV st14 5 rfl ko9 tu77 tz37 (s) rfl rfl ?_)
 refine W1 (OpT.lenR rfl tu37 (hg.rd s) rfl ?_)
 refine W1 (OpT.move (ii 0) rfl ?_)
 refine Wnt ?_
 refine WC.block ?_
 have st16 : St Z w0 w13 (Blk lb 79 [(.map (some lm))] :: Mi lm ((vIn s σ).low) :: Blk sb 37 [v7] :: Row 9 1 v7 ((vIn s σ).stk).length (((vIn s σ).stk).map Value.string) :: Blk gb 77 [(.map (some mb))] :: Mv mb mv :: Blk ib 79 [(.map (some im))] :: Mi im ((vIn s σ).inn) :: Blk vb 111 [(.func (.func 49) #[] #[(pt lb 0), (pt sb 0), (pt gb 0), (pt ib 0), (pt vb 0), (pt ob 0)])] :: Blk ob 80 [ov] :: Row 37 1 ov (vIn s σ).out.length cells :: L) := by
  simp only [vIn, List.map_append, List.map_cons, List.map_nil, List.length_append, List.length_cons, List.length_nil]
  exact (St.selD 11 [1, 2, 3, 0, 4, 5, 6, 7, 8, 9, 10] rfl rfl (by decide) st14)
 refine WC.loop (fun m ρ wz => ∃ (i : Nat), ∃ (Z1 : Nat → Prop), ∃ (w1 : World), ∃ (sv1 : Value), ∃ (ov1 : Value), ∃ (cells1 : List Value), ∃ (le : Int), ∃ (σi : TS), m = (gSuc g s).length - i ∧ i ≤ (gSuc g s).length ∧ ((gSuc g s).take i).foldlM (vStep (visitF g n)) (((σ.low.length + 1 : Nat) : Int), vIn s σ) = some (le, σi) ∧ Ext Z w0 Z1 w1 ∧ RowsOf (rSls.R Z1 w1) 1 cells1 σi.out ∧ ρ 10 = (.int .i64 (le)) ∧ ρ 36 = (ni i) ∧ ρ 0 = (.string s) ∧ ρ 1 = (pt lb 0) ∧ ρ 2 = (pt sb 0) ∧ ρ 4 = (pt ib 0) ∧ ρ 5 = (pt vb 0) ∧ ρ 6 = (pt ob 0) ∧ ρ 9 = (ni (σ.low.length + 1)) ∧ ρ 34 = ((mget mv s).getD vn) ∧ ρ 35 = (.int .i64 ((((gSuc g s).length : Nat) : Int))) ∧ St Z1 w1 wz (Blk lb 79 [(.map (some lm))] :: Mi lm σi.low :: Blk sb 37 [sv1] :: Row 9 1 sv1 σi.stk.length (σi.stk.map Value.string) :: Blk gb 77 [(.map (some mb))] :: Mv mb mv :: Blk ib 79 [(.map (some im))] :: Mi im σi.inn :: Blk vb 111 [(.func (.func 49) #[] #[(pt lb 0), (pt sb 0), (pt gb 0), (pt ib 0), (pt vb 0), (pt ob 0)])] :: Blk ob 80 [ov1] :: Row 37 1 ov1 σi.out.length cells1 :: L)) _ ⟨0, Z, w0, v7, ov, cells, ((σ.low.length + 1 : Nat) : Int), vIn s σ, rfl, by omega, rfl, Ext.refl _ _, hR, rfl, rfl, rfl, rfl, rfl, rfl, rfl, rfl, rfl, rfl, rfl, st16⟩ ?_
 rintro m17 ρ18 w19 ⟨i, Z1, w1, sv1, ov1, cells1, le, σi, hm33, hp21, HF, hxx, HR, hs23, hs22, hs24, hs25, hs26, hs27, hs28, hs29, hs30, hs31, hs32, st20⟩
 have hg1 := hg.ext hxx
 have hgs := hg1.rd s
 replace hgs : rStr.sl Z1 w1 ((mget mv s).getD vn) (gSuc g s) := hgs
 have hal := Rl.sl_le hgs
 have osv := st20.rowOne (i := 3) rfl
 have csv := st20.rowCel (i := 3) rfl
 have oov := st20.rowOne (i := 10) rfl
 have cov := st20.rowCel (i := 10) rfl
 refine Wsr ?_
 refine W1 (OpT.ilt .i64 (((i : Nat) : Int)) ((((gSuc g s).length : Nat) : Int)) hs22 hs32 ?_)
 refine Wnt ?_
 refine WC.seq ?_
 refine WC.condP (((i : Nat) : Int) < (((gSuc g s).length : Nat) : Int)) rfl (fun h34 => ?_) (fun h34 => ?_)
 ·refine WC.skip ?_
  refine thenQ_n ?_
  refine WC.seq ?_
  refine WC.block ?_
  refine Wsr ?_
  obtain ⟨x35, hx35⟩ : ∃ x, (gSuc g s)[i]? = some x := ⟨_, List.getElem?_eq_getElem (by omega)⟩
  refine W1 (OpT.idxX tu37 ts9 hgs hs31 .i64 (i) hs22 hx35 (fun ad36 cs37 hr38 hR39 => ?_))
  have hR39c := hR39
  obtain rfl := hR39
  refine W1 (OpT.loadS ad36 (.string x35) ta9 rfl (hr38.cell st20 (j := 0) rfl) ?_)
  refine W1 (OpT.assign (.string x35) rfl ?_)
  refine Wnt ?_
  refine WC.seq ?_
  refine WC.seq ?_
  obtain ⟨q1, hq1, hq2⟩ := fold_at hall HF hx35
  refine WC.region ?_
  refine W1 (OpT.loadS ⟨ib, 0, none⟩ (.map (some im)) ta79 hs27 (st20.cellB (i := 6) rfl rfl) ?_)
  refine W1 (OpT.move (.string x35) rfl ?_)
  refine W1 (OpT.lookupOkI st20 7 rfl ko9 tu79 tz3 (x35) rfl rfl ?_)
  refine W1 (OpT.move (.tuple #[(.int .i64 (((mget σi.inn x35).getD 0))), (.bool ((mget σi.inn x35).isSome))]) rfl ?_)
  refine W1 (OpT.extract [(.int .i64 (((mget σi.inn x35).getD 0))), (.bool ((mget σi.inn x35).isSome))] (.int .i64 (((mget σi.inn x35).getD 0))) rfl rfl ?_)
  refine W1 (OpT.extract [(.int .i64 (((mget σi.inn x35).getD 0))), (.bool ((mget σi.inn x35).isSome))] (.bool ((mget σi.inn x35).isSome)) rfl rfl ?_)
  refine W1 (OpT.assign (.int .i64 (((mget σi.inn x35).getD 0))) rfl ?_)
  refine W1 (OpT.assign (.bool ((mget σi.inn x35).isSome)) rfl ?_)
  refine Wns ?_
  refine W1 (OpT.move (.bool ((mget σi.inn x35).isSome)) rfl ?_)
  refine Wnt ?_
  refine WC.cond ((mget σi.inn x35).isSome) rfl (fun h40 => ?_) (fun h40 => ?_)
  ·refine WC.exit ?_
   refine thenQ_x ?_
   refine blkQ_hit ?_
   refine thenQ_n ?_
   refine WC.region ?_
   refine W1 (OpT.iadd .i64 (((i : Nat) : Int)) (1) (((i + 1 : Nat) : Int)) hs22 rfl (wadd (a := i) (b := 1) (by omega)) ?_)
   refine W1 (OpT.move (ni (i + 1)) rfl ?_)
   refine WL.nil ?_
   have hs41 : vStep (visitF g n) (le, σi) x35 = some (le, σi) := by simp [vStep, h40]
   exact loopQ_n _ (by omega) ⟨i + 1, Z1, w1, sv1, ov1, cells1, le, σi, rfl, by omega, hq2.trans (hq1.symm.trans hs41), hxx, HR, hs23, rfl, hs24, hs25, hs26, hs27, hs28, hs29, hs30, hs31, hs32, st20⟩
  refine WC.skip ?_
  refine thenQ_n ?_
  refine Wsr ?_
  refine W1 (OpT.loadS ⟨lb, 0, none⟩ (.map (some lm)) ta79 hs25 (st20.cellB (i := 0) rfl rfl) ?_)
  refine W1 (OpT.move (.string x35) rfl ?_)
  refine W1 (OpT.lookupOkI st20 1 rfl ko9 tu79 tz3 (x35) rfl rfl ?_)
  refine W1 (OpT.move (.tuple #[(.int .i64 (((mget σi.low x35).getD 0))), (.bool ((mget σi.low x35).isSome))]) rfl ?_)
  refine W1 (OpT.extract [(.int .i64 (((mget σi.low x35).getD 0))), (.bool ((mget σi.low x35).isSome))] (.int .i64 (((mget σi.low x35).getD 0))) rfl rfl ?_)
  refine W1 (OpT.extract [(.int .i64 (((mget σi.low x35).getD 0))), (.bool ((mget σi.low x35).isSome))] (.bool ((mget σi.low x35).isSome)) rfl rfl ?_)
  refine W1 (OpT.assign (.int .i64 (((mget σi.low x35).getD 0))) rfl ?_)
  refine W1 (OpT.assign (.bool ((mget σi.low x35).isSome)) rfl ?_)
  refine Wns ?_
  refine W1 (OpT.move (.bool ((mget σi.low x35).isSome)) rfl ?_)
  refine Wnt ?_
  refine WC.cond ((mget σi.low x35).isSome) rfl (fun h42 => ?_) (fun h42 => ?_)
  ·refine WC.region ?_
   refine W1 (OpT.move (.int .i64 (le)) hs23 ?_)
   refine W1 (OpT.move (.int .i64 (((mget σi.low x35).getD 0))) rfl ?_)
   refine W1 (OpT.minI .i64 (le) (((mget σi.low x35).getD 0)) rfl rfl ?_)
   refine W1 (OpT.assign (.int .i64 ((if ((mget σi.low x35).getD 0) < le then ((mget σi.low x35).getD 0) else le))) rfl ?_)
   refine WL.nil ?_
   refine blkQ_n ?_
   refine thenQ_n ?_
   refine WC.region ?_
   refine W1 (OpT.iadd .i64 (((i : Nat) : Int)) (1) (((i + 1 : Nat) : Int)) hs22 rfl (wadd (a := i) (b := 1) (by omega)) ?_)
   refine W1 (OpT.move (ni (i + 1)) rfl ?_)
   refine WL.nil ?_
   have hs43 : vStep (visitF g n) (le, σi) x35 = some ((if ((mget σi.low x35).getD 0) < le then ((mget σi.low x35).getD 0) else le), σi) := by simp [vStep, h40, h42]
   exact loopQ_n _ (by omega) ⟨i + 1, Z1, w1, sv1, ov1, cells1, (if ((mget σi.low x35).getD 0) < le then ((mget σi.low x35).getD 0) else le), σi, rfl, by omega, hq2.trans (hq1.symm.trans hs43), hxx, HR, rfl, rfl, hs24, hs25, hs26, hs27, hs28, hs29, hs30, hs31, hs32, st20⟩
  refine WC.region ?_
  refine W1 (OpT.move (.int .i64 (le)) hs23 ?_)
  refine W1 (OpT.loadS ⟨vb, 0, none⟩ (.func (.func 49) #[] #[(pt lb 0), (pt sb 0), (pt gb 0), (pt ib 0), (pt vb 0), (pt ob 0)]) ta111 hs28 (st20.cellB (i := 8) rfl rfl) ?_)
  refine W1 (OpT.move (.string x35) rfl ?_)
  obtain ⟨⟨r1, σn⟩, hv1⟩ : ∃ p, visitF g n x35 σi = some p := by cases hv : visitF g n x35 σi with | none => (simp [vStep, hv, h40, h42] at hq1) | some p => exact ⟨p, rfl⟩
  refine W1 (OpT.callS cal49 [] [(pt lb 0), (pt sb 0), (pt gb 0), (pt ib 0), (pt vb 0), (pt ob 0)] [(.string x35), (pt lb 0), (pt sb 0), (pt gb 0), (pt ib 0), (pt vb 0), (pt ob 0)] rfl (ca1 rfl) (ih x35 σi r1 σn hv1 hg1 HR st20) ?_)
  rintro v51 w52 ⟨rfl, Z44, w45, sv46, ov47, cells48, hx49, hR50, st53⟩
  refine W1 (OpT.minI .i64 (le) (r1) rfl rfl ?_)
  refine W1 (OpT.assign (.int .i64 ((if r1 < le then r1 else le))) rfl ?_)
  refine WL.nil ?_
  refine blkQ_n ?_
  refine thenQ_n ?_
  refine WC.region ?_
  refine W1 (OpT.iadd .i64 (((i : Nat) : Int)) (1) (((i + 1 : Nat) : Int)) hs22 rfl (wadd (a := i) (b := 1) (by omega)) ?_)
  refine W1 (OpT.move (ni (i + 1)) rfl ?_)
  refine WL.nil ?_
  have hs54 : vStep (visitF g n) (le, σi) x35 = some ((if r1 < le then r1 else le), σn) := by simp [vStep, h40, h42, hv1]
  exact loopQ_n _ (by omega) ⟨i + 1, Z44, w45, sv46, ov47, cells48, (if r1 < le then r1 else le), σn, rfl, by omega, hq2.trans (hq1.symm.trans hs54), hxx.trans hx49, hR50, rfl, rfl, hs24, hs25, hs26, hs27, hs28, hs29, hs30, hs31, hs32, st53⟩
 refine WC.exit ?_
 refine thenQ_x ?_
 refine loopQ_x ?_
 refine blkQ_hit ?_
 refine thenQ_n ?_
 refine WC.seq ?_
 refine WC.seq ?_
 have eT : (gSuc g s).take i = gSuc g s := List.take_of_length_le (by omega)
 rw [eT, hall] at HF
 rw [Option.some.inj HF] at hvo
 refine WC.region ?_
 refine W1 (OpT.move (.int .i64 (le)) hs23 ?_)
 refine W1 (OpT.move (ni (σ.low.length + 1)) hs30 ?_)
 refine W1 (OpT.ilt .i64 (le) (((σ.low.length + 1 : Nat) : Int)) rfl rfl ?_)
 refine Wnt ?_
 refine WC.condP (le < ((σ.low.length + 1 : Nat) : Int)) rfl (fun h55 => ?_) (fun h55 => ?_)
 ·refine WC.seq ?_
  obtain ⟨rfl, rfl⟩ := vOut_lt hvo h55
  refine WC.region ?_
  refine W1 (OpT.loadS ⟨lb, 0, none⟩ (.map (some lm)) ta79 hs25 (st20.cellB (i := 0) rfl rfl) ?_)
  refine W1 (OpT.move (.string s) hs24 ?_)
  refine W1 (OpT.move (.int .i64 (le)) hs23 ?_)
  refine WL.stepN (OpT.mapSet st20 1 rfl ko9 tu79 (s) (le) rfl rfl rfl (fun w56 st57 => ?_))
  refine Wns ?_
  refine W1 (OpT.move (.int .i64 (le)) hs23 ?_)
  refine W1 (OpT.assign (.int .i64 (le)) rfl ?_)
  refine Wnt ?_
  refine WC.ret <| thenQ_r <| retQ.one (.int .i64 (le)) rfl ?_
  exact ⟨_, rfl, rfl, Z1, w1, sv1, ov1, cells1, hxx, HR, st57⟩
 refine WC.skip ?_
 refine thenQ_n ?_
 refine WC.seq ?_
 obtain ⟨hin, hb1, hb2, rfl, rfl⟩ := vOut_ge hvo h55
 obtain ⟨hat, hat2⟩ := vAt_eq hin
 refine WC.region ?_
 refine W1 (OpT.loadS ⟨sb, 0, none⟩ sv1 ta37 hs26 (st20.cellB (i := 2) rfl rfl) ?_)
 refine W1 (OpT.move (.string s) hs24 ?_)
 obtain ⟨Z58, hz59, hw60, hr61, st62, bk63⟩ := St.freezeStr ((St.selD 11 [3, 0, 1, 2, 4, 5, 6, 7, 8, 9, 10] rfl rfl (by decide) st20) : St Z1 w1 w19 (Row 9 1 sv1 σi.stk.length (σi.stk.map Value.string) :: Blk lb 79 [(.map (some lm))] :: Mi lm σi.low :: Blk sb 37 [sv1] :: Blk gb 77 [(.map (some mb))] :: Mv mb mv :: Blk ib 79 [(.map (some im))] :: Mi im σi.inn :: Blk vb 111 [(.func (.func 49) #[] #[(pt lb 0), (pt sb 0), (pt gb 0), (pt ib 0), (pt vb 0), (pt ob 0)])] :: Blk ob 80 [ov1] :: Row 37 1 ov1 σi.out.length cells1 :: L)) (by omega)
 refine W1 (OpT.callS cal50 [] [] [sv1, (.string s)] rfl (ca2 rfl rfl) (Index_spec st62 hr61 s) ?_)
 rintro v65 w66 ⟨hv64, st67⟩
 rw [hat] at hv64
 subst hv64
 replace st67 := bk63 _ _ st67
 refine W1 (OpT.assign (ni (vAt s σi.stk)) rfl ?_)
 refine Wnt ?_
 refine WC.seq ?_
 obtain ⟨gk, cap, ex, rfl, hE, hc, hm, st68⟩ := St.openRow (by omega) (st67 : St Z1 w1 w66 (Row 9 1 sv1 σi.stk.length (σi.stk.map Value.string) :: Blk lb 79 [(.map (some lm))] :: Mi lm σi.low :: Blk sb 37 [sv1] :: Blk gb 77 [(.map (some mb))] :: Mv mb mv :: Blk ib 79 [(.map (some im))] :: Mi im σi.inn :: Blk vb 111 [(.func (.func 49) #[] #[(pt lb 0), (pt sb 0), (pt gb 0), (pt ib 0), (pt vb 0), (pt ob 0)])] :: Blk ob 80 [ov1] :: Row 37 1 ov1 σi.out.length cells1 :: L))
 refine WC.region ?_
 refine W1 (OpT.loadS ⟨sb, 0, none⟩ (sl gk σi.stk.length cap) ta37 hs26 (st68.cellB (i := 3) rfl rfl) ?_)
 refine W1 (OpT.move (ni (vAt s σi.stk)) rfl ?_)
 refine W1 (OpT.litV (v := sliced (some ⟨gk, 0, none⟩) (vAt s σi.stk) σi.stk.length cap 1) (v' := (.slice (some ⟨gk, vAt s σi.stk, none⟩) ((σi.stk.drop (vAt s σi.stk)).map tlB).length (cap - vAt s σi.stk))) (by rw [sliced_at (by omega), List.length_map, List.length_drop]) (fun hk => OpT.sliceLo (vAt s σi.stk) tu37 ts9 rfl rfl (by omega) hk) ?_)
 refine W1 (OpT.callS cal52 [] [] [(.slice (some ⟨gk, vAt s σi.stk, none⟩) ((σi.stk.drop (vAt s σi.stk)).map tlB).length (cap - vAt s σi.stk))] rfl (ca1 rfl) (Values_spec st68 (some ⟨gk, vAt s σi.stk, none⟩) ((σi.stk.drop (vAt s σi.stk)).map tlB).length (cap - vAt s σi.stk)) ?_)
 rintro v70 w71 ⟨B69, rfl, st72⟩
 refine W1 (OpT.callS cal51 [] [] [(.func (.func 77) #[] #[(pt B69 0)])] rfl (ca1 rfl) (sortedVals_spec (zs := (σi.stk.drop (vAt s σi.stk)).map tlB) (cells := σi.stk.map Value.string ++ ex) st72 (by rw [List.length_map, List.length_drop]; omega) (fun j hj => by rw [List.length_map, List.length_drop] at hj; rw [List.getElem?_append_left (by rw [List.length_map]; omega), List.getElem?_map, List.getElem?_map, List.getElem?_drop, List.getElem?_eq_getElem (by omega)]; rfl)) ?_)
 rintro v79 w80 ⟨o73, c74, st81⟩
 rw [sorted_strs, List.length_map, ← isort_len] at st81
 obtain ⟨Z75, hx76, hp77, st78⟩ := St.freezeRow (r := rStr) st81 (by rw [isort_len, List.length_drop]; omega) str_at
 replace hp77 : rStr.sl Z75 w80 v79 (vPart s σi) := hp77
 refine W1 (OpT.assign v79 rfl ?_)
 refine Wns ?_
 refine W1 (OpT.loadS ⟨sb, 0, none⟩ (sl gk σi.stk.length cap) ta37 hs26 (st78.cellB (i := 4) rfl rfl) ?_)
 refine W1 (OpT.move (ni (vAt s σi.stk)) rfl ?_)
 refine W1 (OpT.sliceHi (vAt s σi.stk) tu37 ts9 rfl rfl (by omega) rfl ?_)
 refine WL.stepN (OpT.storeS st78 4 (sl gk (vAt s σi.stk) cap) rfl ts37 hs26 rfl rfl rfl rfl (fun w82 st83 => ?_))
 refine Wnt ?_
 refine WC.seq ?_
 refine Wsr ?_
 refine W1 (OpT.move v79 rfl ?_)
 refine W1 (OpT.lenR rfl tu37 hp77 rfl ?_)
 refine W1 (OpT.move (ii 0) rfl ?_)
 refine Wnt ?_
 refine WC.block ?_
 have st84 : St Z75 w80 w82 (Row 9 1 (sl gk (vAt s σi.stk) cap) (σi.stk.take (vAt s σi.stk)).length ((σi.stk.take (vAt s σi.stk)).map Value.string) :: Blk lb 79 [(.map (some lm))] :: Mi lm σi.low :: Blk sb 37 [(sl gk (vAt s σi.stk) cap)] :: Blk gb 77 [(.map (some mb))] :: Mv mb mv :: Blk ib 79 [(.map (some im))] :: Mi im σi.inn :: Blk vb 111 [(.func (.func 49) #[] #[(pt lb 0), (pt sb 0), (pt gb 0), (pt ib 0), (pt vb 0), (pt ob 0)])] :: Blk ob 80 [ov1] :: Row 37 1 ov1 σi.out.length cells1 :: L) := by
  have el : (σi.stk.take (vAt s σi.stk)).length = vAt s σi.stk := by rw [List.length_take]; omega
  rw [el]
  refine St.shutRow (cells := σi.stk.map Value.string ++ ex) ((St.selD 12 [1, 2, 3, 4, 5, 6, 7, 8, 9, 10, 11] rfl rfl (by decide) st83) : St Z75 w80 w82 (Blk gk 9 (σi.stk.map Value.string ++ ex) :: Blk lb 79 [(.map (some lm))] :: Mi lm σi.low :: Blk sb 37 [(sl gk (vAt s σi.stk) cap)] :: Blk gb 77 [(.map (some mb))] :: Mv mb mv :: Blk ib 79 [(.map (some im))] :: Mi im σi.inn :: Blk vb 111 [(.func (.func 49) #[] #[(pt lb 0), (pt sb 0), (pt gb 0), (pt ib 0), (pt vb 0), (pt ob 0)])] :: Blk ob 80 [ov1] :: Row 37 1 ov1 σi.out.length cells1 :: L)) (by simp only [List.length_append, List.length_map]; omega) (by omega) hm ?_
  rw [Nat.mul_one, List.take_append_of_le_length (by rw [List.length_map]; omega), List.map_take]
 have st85 : St Z75 w80 w82 (Blk lb 79 [(.map (some lm))] :: Mi lm σi.low :: Blk sb 37 [(sl gk (vAt s σi.stk) cap)] :: Row 9 1 (sl gk (vAt s σi.stk) cap) (σi.stk.take (vAt s σi.stk)).length ((σi.stk.take (vAt s σi.stk)).map Value.string) :: Blk gb 77 [(.map (some mb))] :: Mv mb mv :: Blk ib 79 [(.map (some im))] :: Mi im σi.inn :: Blk vb 111 [(.func (.func 49) #[] #[(pt lb 0), (pt sb 0), (pt gb 0), (pt ib 0), (pt vb 0), (pt ob 0)])] :: Blk ob 80 [ov1] :: Row 37 1 ov1 σi.out.length cells1 :: L) := St.selT [Row 9 1 (sl gk (vAt s σi.stk) cap) (σi.stk.take (vAt s σi.stk)).length ((σi.stk.take (vAt s σi.stk)).map Value.string), Blk lb 79 [(.map (some lm))], Mi lm σi.low, Blk sb 37 [(sl gk (vAt s σi.stk) cap)], Blk gb 77 [(.map (some mb))], Mv mb mv, Blk ib 79 [(.map (some im))], Mi im σi.inn, Blk vb 111 [(.func (.func 49) #[] #[(pt lb 0), (pt sb 0), (pt gb 0), (pt ib 0), (pt vb 0), (pt ob 0)])], Blk ob 80 [ov1], Row 37 1 ov1 σi.out.length cells1] [1, 2, 3, 0, 4, 5, 6, 7, 8, 9, 10] rfl (by decide) st84
 refine WC.loop (fun m ρ wz => ∃ (k : Nat), m = (vPart s σi).length - k ∧ k ≤ (vPart s σi).length ∧ ρ 83 = (ni k) ∧ ρ 4 = (pt ib 0) ∧ ρ 6 = (pt ob 0) ∧ ρ 9 = (ni (σ.low.length + 1)) ∧ ρ 18 = v79 ∧ ρ 81 = v79 ∧ ρ 82 = (.int .i64 ((((vPart s σi).length : Nat) : Int))) ∧ St Z75 w80 wz (Blk lb 79 [(.map (some lm))] :: Mi lm σi.low :: Blk sb 37 [(sl gk (vAt s σi.stk) cap)] :: Row 9 1 (sl gk (vAt s σi.stk) cap) (σi.stk.take (vAt s σi.stk)).length ((σi.stk.take (vAt s σi.stk)).map Value.string) :: Blk gb 77 [(.map (some mb))] :: Mv mb mv :: Blk ib 79 [(.map (some im))] :: Mi im (inPut σi.inn σi.out.length ((vPart s σi).take k)) :: Blk vb 111 [(.func (.func 49) #[] #[(pt lb 0), (pt sb 0), (pt gb 0), (pt ib 0), (pt vb 0), (pt ob 0)])] :: Blk ob 80 [ov1] :: Row 37 1 ov1 σi.out.length cells1 :: L)) _ ⟨0, rfl, by omega, rfl, hs27, hs29, hs30, rfl, rfl, rfl, st85⟩ ?_
 rintro m86 ρ87 w88 ⟨k, hm98, hp90, hs91, hs92, hs93, hs94, hs95, hs96, hs97, st89⟩
 have hal2 := Rl.sl_le hp77
 refine Wsr ?_
 refine W1 (OpT.ilt .i64 (((k : Nat) : Int)) ((((vPart s σi).length : Nat) : Int)) hs91 hs97 ?_)
 refine Wnt ?_
 refine WC.seq ?_
 refine WC.condP (((k : Nat) : Int) < (((vPart s σi).length : Nat) : Int)) rfl (fun h99 => ?_) (fun h99 => ?_)
 ·refine WC.skip ?_
  refine thenQ_n ?_
  refine WC.seq ?_
  refine WC.block ?_
  refine Wsr ?_
  obtain ⟨x100, hx100⟩ : ∃ x, (vPart s σi)[k]? = some x := ⟨_, List.getElem?_eq_getElem (by omega)⟩
  refine W1 (OpT.idxX tu37 ts9 hp77 hs96 .i64 (k) hs91 hx100 (fun ad101 cs102 hr103 hR104 => ?_))
  have hR104c := hR104
  obtain rfl := hR104
  refine W1 (OpT.loadS ad101 (.string x100) ta9 rfl (hr103.cell st89 (j := 0) rfl) ?_)
  refine W1 (OpT.assign (.string x100) rfl ?_)
  refine Wnr ?_
  refine W1 (OpT.loadS ⟨ib, 0, none⟩ (.map (some im)) ta79 hs92 (st89.cellB (i := 6) rfl rfl) ?_)
  refine W1 (OpT.move (.string x100) rfl ?_)
  refine W1 (OpT.loadS ⟨ob, 0, none⟩ ov1 ta80 hs93 (st89.cellB (i := 9) rfl rfl) ?_)
  refine W1 (OpT.lenRow st89 10 rfl rfl tu80 rfl ?_)
  refine WL.stepN (OpT.mapSet st89 7 rfl ko9 tu79 (x100) (((σi.out.length : Nat) : Int)) rfl rfl rfl (fun w105 st106 => ?_))
  refine WL.nil ?_
  refine blkQ_n ?_
  refine thenQ_n ?_
  refine WC.region ?_
  refine W1 (OpT.iadd .i64 (((k : Nat) : Int)) (1) (((k + 1 : Nat) : Int)) hs91 rfl (wadd (a := k) (b := 1) (by omega)) ?_)
  refine W1 (OpT.move (ni (k + 1)) rfl ?_)
  refine WL.nil ?_
  have st107 : St Z75 w80 w105 (Blk lb 79 [(.map (some lm))] :: Mi lm σi.low :: Blk sb 37 [(sl gk (vAt s σi.stk) cap)] :: Row 9 1 (sl gk (vAt s σi.stk) cap) (σi.stk.take (vAt s σi.stk)).length ((σi.stk.take (vAt s σi.stk)).map Value.string) :: Blk gb 77 [(.map (some mb))] :: Mv mb mv :: Blk ib 79 [(.map (some im))] :: Mi im (inPut σi.inn σi.out.length ((vPart s σi).take (k + 1))) :: Blk vb 111 [(.func (.func 49) #[] #[(pt lb 0), (pt sb 0), (pt gb 0), (pt ib 0), (pt vb 0), (pt ob 0)])] :: Blk ob 80 [ov1] :: Row 37 1 ov1 σi.out.length cells1 :: L) := by rw [← inPut_step hx100]; exact st106
  exact loopQ_n _ (by omega) ⟨k + 1, rfl, by omega, rfl, hs92, hs93, hs94, hs95, hs96, hs97, st107⟩
 refine WC.exit ?_
 refine thenQ_x ?_
 refine loopQ_x ?_
 refine blkQ_hit ?_
 refine thenQ_n ?_
 refine Wsr ?_
 refine W1 (OpT.loadS ⟨ob, 0, none⟩ ov1 ta80 hs93 (st89.cellB (i := 9) rfl rfl) ?_)
 refine W1 (OpT.move v79 hs95 ?_)
 refine W1 (OpT.buildSlice st89 [(0, v79)] [v79] tu80 ts37 tz37 (mp1 rfl) (by first | (simp [Instr.fill, (Rl.sl_cells hp77)]; done) | (simp [Instr.fill, (Rl.sl_cells hp77)]; kernel_rfl)) (by decide) (fun b108 w109 st110 => ?_))
 have st111 : St Z75 w80 w109 (Blk b108 37 [v79] :: Row 37 1 ov1 σi.out.length cells1 :: Blk lb 79 [(.map (some lm))] :: Mi lm σi.low :: Blk sb 37 [(sl gk (vAt s σi.stk) cap)] :: Row 9 1 (sl gk (vAt s σi.stk) cap) (σi.stk.take (vAt s σi.stk)).length ((σi.stk.take (vAt s σi.stk)).map Value.string) :: Blk gb 77 [(.map (some mb))] :: Mv mb mv :: Blk ib 79 [(.map (some im))] :: Mi im (inPut σi.inn σi.out.length ((vPart s σi).take k)) :: Blk vb 111 [(.func (.func 49) #[] #[(pt lb 0), (pt sb 0), (pt gb 0), (pt ib 0), (pt vb 0), (pt ob 0)])] :: Blk ob 80 [ov1] :: L) := St.selT [Blk b108 37 [v79], Blk lb 79 [(.map (some lm))], Mi lm σi.low, Blk sb 37 [(sl gk (vAt s σi.stk) cap)], Row 9 1 (sl gk (vAt s σi.stk) cap) (σi.stk.take (vAt s σi.stk)).length ((σi.stk.take (vAt s σi.stk)).map Value.string), Blk gb 77 [(.map (some mb))], Mv mb mv, Blk ib 79 [(.map (some im))], Mi im (inPut σi.inn σi.out.length ((vPart s σi).take k)), Blk vb 111 [(.func (.func 49) #[] #[(pt lb 0), (pt sb 0), (pt gb 0), (pt ib 0), (pt vb 0), (pt ob 0)])], Blk ob 80 [ov1], Row 37 1 ov1 σi.out.length cells1] [0, 11, 1, 2, 3, 4, 5, 6, 7, 8, 9, 10] rfl (by decide) st110
 refine W1 (OpT.append st111 1 tu80 ts37 tz37 rfl tb37 (by decide) rfl rfl rfl (aC (Rl.sl_one hp77) aN) (by omega) (by omega) (fun v112 w113 st114 hn115 => ?_))
 have o116 := st114.rowOne (i := 0) rfl
 have c117 := st114.rowCel (i := 0) rfl
 refine WL.stepN (OpT.storeS st114 10 v112 rfl ts80 hs93 rfl o116 c117 rfl (fun w118 st119 => ?_))
 refine Wns ?_
 refine W1 (OpT.move (ni (σ.low.length + 1)) hs94 ?_)
 refine W1 (OpT.assign (ni (σ.low.length + 1)) rfl ?_)
 refine Wnt ?_
 refine WC.ret <| retQ.one (ni (σ.low.length + 1)) rfl ?_
 have eT2 : (vPart s σi).take k = vPart s σi := List.take_of_length_le (by omega)
 rw [eT2] at st119
 refine ⟨_, rfl, rfl, Z75, w80, (sl gk (vAt s σi.stk) cap), v112, (cells1 ++ [v79]), hxx.trans hx76, (RowsOf.ext hx76 HR).snoc rfl ⟨_, rfl, hp77⟩, ?_⟩
 simp only [PJ, List.length_append, List.length_cons, List.length_nil]
 exact (St.selD 11 [1, 2, 3, 4, 5, 6, 7, 8, 9, 10, 0] rfl rfl (by decide) st119)

theorem visit_spec {g : Gm} {lb lm sb gb mb ib im vb ob : Nat} {mv : List (ByteArray × Value)} : ∀ (n : Nat) (s : ByteArray) (σ : TS) (r : Int) (σ2 : TS), visitF g n s σ = some (r, σ2) → ∀ {Z : Nat → Prop} {w0 w : World} {L : List Res} {sv ov : Value} {cells : List Value} (hg : GF Z w0 mv g) (hR : RowsOf (rSls.R Z w0) 1 cells σ.out) (st : St Z w0 w (PJ lb lm sb gb mb ib im vb ob mv sv ov cells σ L)), Calls Tryz.prog 49 #[.string s, (.pointer (some ⟨lb, 0, none⟩)), (.pointer (some ⟨sb, 0, none⟩)), (.pointer (some ⟨gb, 0, none⟩)), (.pointer (some ⟨ib, 0, none⟩)), (.pointer (some ⟨vb, 0, none⟩)), (.pointer (some ⟨ob, 0, none⟩))] w (Ret fun u w' => u = .int .i64 r ∧ ∃ (Z1 : Nat → Prop) (w1 : World) (sv ov : Value) (cells : List Value), Ext Z w0 Z1 w1 ∧ RowsOf (rSls.R Z1 w1) 1 cells σ2.out ∧ St Z1 w1 w' (PJ lb lm sb gb mb ib im vb ob mv sv ov cells σ2 L)) := by
  intro n
  induction n with
  | zero => intro s σ r σ2 h; cases h
  | succ n ih => intro s σ r σ2 h Z w0 w L sv ov cells hg hR st; exact visit_step n ih s σ r σ2 h hg hR st
end Go.Ped
set_option linter.unusedVariables false
set_option maxRecDepth 20000
namespace Go.Ped
open Go Go.Eng Go.RowKit Go.Proofs

theorem tz80 : zeroB Tryz.prog 80 = some (.slice none 0 0) := by kernel_rfl
theorem tz111 : zeroB Tryz.prog 111 = some .nilFunc := by kernel_rfl
theorem ts111 : sizeB Tryz.prog 111 = some 1 := by kernel_rfl
theorem cal28 : CallOk Tryz.prog 28 := ⟨⟨Tryz.f28, Tryz.func28, rfl, by decide⟩⟩
open Go.Maps Go.Sort
def ts0 : TS := ⟨[], [], [], []⟩
def pStep (g : Gm) (σ : TS) (s : ByteArray) : Option TS := if (mget σ.inn s).isSome then some σ else (visitF g (g.length + 1) s σ).map fun p => p.2
def namesG (g : Gm) : List ByteArray := isort (g.map Prod.fst)
def partsF (g : Gm) : Option TS := ((namesG g).foldlM (pStep g) ts0).bind fun σ => if σ.out.length < 2097152 then some σ else none
theorem parts_inv {g : Gm} {σ : TS} (h : partsF g = some σ) : (namesG g).foldlM (pStep g) ts0 = some σ ∧ σ.out.length < 2097152 := by
  unfold partsF at h
  cases hf : (namesG g).foldlM (pStep g) ts0 with
  | none => rw [hf] at h; cases h
  | some q =>
    rw [hf] at h
    simp only [Option.bind_some] at h
    split at h
    · rename_i hb; cases h; exact ⟨rfl, hb⟩
    · cases h
/-- Graphs whose names may be put in order. -/
structure GOk (g : Gm) : Prop where
  size : ∀ k ∈ g.map Prod.fst, k.size ≤ maxLen
  nodup : (g.map Prod.fst).Nodup
  len : g.length < 2097152
theorem GF_len {Z : Nat → Prop} {w0 : World} {m : List (ByteArray × Value)} {g : Gm} (h : GF Z w0 m g) : m.length = g.length := by
  have := congrArg List.length h.key
  simpa using this
theorem keyL_names {Z : Nat → Prop} {w0 : World} {m : List (ByteArray × Value)} {g : Gm} (h : GF Z w0 m g) : ((keyL m).mergeSort leB).map encStr = (namesG g).map Value.string ∧ m.length = (namesG g).length := by
  refine ⟨?_, by rw [GF_len h, namesG, isort_len, List.length_map]⟩
  rw [namesG, ← h.key, ← sorted_strs]
  congr 2
  simp [keyL, tlB, List.map_map, Function.comp_def]
theorem namesG_spec {Z : Nat → Prop} {w0 w : World} {L : List Res} {mb : Nat} {m : List (ByteArray × Value)} {g : Gm} (hg : GF Z w0 m g) (ok : GOk g) (st : St Z w0 w (Mv mb m :: L)) :
    Calls Tryz.prog 28 #[.map (some mb)] w (Ret fun r w' => ∃ Z1, Ext Z w0 Z1 w' ∧ rStr.sl Z1 w' r (namesG g) ∧ St Z1 w' w' (Mv mb m :: L)) := by
  refine (names_spec st (fun p hp => ok.size p.1 (by rw [← hg.key]; exact List.mem_map_of_mem hp)) (by rw [show (m.map fun p => p.1) = g.map Prod.fst from hg.key]; exact ok.nodup) (by rw [GF_len hg]; exact ok.len)).mono ?_
  rintro e w' ⟨r, rfl, _, _, st1⟩
  rw [(keyL_names hg).1, (keyL_names hg).2] at st1
  obtain ⟨Z1, hx, hs, st2⟩ := St.freezeRow (r := rStr) st1 (by rw [← (keyL_names hg).2, GF_len hg]; have := ok.len; omega) str_at
  exact ⟨r, rfl, Z1, hx, hs, st2⟩
theorem parts_spec {Z : Nat → Prop} {w0 w : World} {L : List Res} {mb : Nat} {mv : List (ByteArray × Value)} {g : Gm} {σ : TS} (hg : GF Z w0 mv g) (ok : GOk g) (hp : partsF g = some σ) (st : St Z w0 w (Mv mb mv :: L)) : Calls Tryz.prog 27 #[(.map (some mb))] w (Ret fun r w' => ∃ im ov Z1 w1, r = .tuple #[.map (some im), ov] ∧ Ext Z w0 Z1 w1 ∧ rSls.sl Z1 w1 ov σ.out ∧ St Z1 w1 w' (Mi im σ.inn :: Mv mb mv :: L)) := by
 have hall := parts_inv hp
 refine calls_of_WC (m := 37) (rs := [.tmp 2, .tmp 3]) Tryz.func27 rfl rfl rfl rfl ?_
 refine Wsr ?_
 refine W1 (OpT.box st (.map (some mb)) [(.map (some mb))] rfl rfl (fun b1 w2 st3 => ?_))
 refine W1 (OpT.assign (.map none) rfl ?_)
 refine W1 (OpT.assign vn rfl ?_)
 refine Wns ?_
 refine W1 (OpT.makeMap Value.string (Value.int .i64) st3 (fun b4 w5 st6 => ?_))
 refine W1 (OpT.makeMap Value.string (Value.int .i64) st6 (fun b7 w8 st9 => ?_))
 refine W1 (OpT.alloc st9 (.map none) [(.map none)] tz79 rfl (fun b10 w11 st12 => ?_))
 refine W1 (OpT.alloc st12 (.map none) [(.map none)] tz79 rfl (fun b13 w14 st15 => ?_))
 refine WL.stepN (OpT.storeS st15 1 (.map (some b4)) rfl ts79 rfl rfl rfl rfl rfl (fun w16 st17 => ?_))
 refine WL.stepN (OpT.storeS st17 0 (.map (some b7)) rfl ts79 rfl rfl rfl rfl rfl (fun w18 st19 => ?_))
 refine Wns ?_
 refine W1 (OpT.alloc st19 vn [vn] tz37 rfl (fun b20 w21 st22 => ?_))
 refine Wns ?_
 refine W1 (OpT.alloc st22 vn [vn] tz80 rfl (fun b23 w24 st25 => ?_))
 refine Wns ?_
 refine W1 (OpT.alloc st25 .nilFunc [.nilFunc] tz111 rfl (fun b26 w27 st28 => ?_))
 refine Wns ?_
 refine W1 (OpT.makeFunc [] [(pt b10 0), (pt b20 0), (pt b1 0), (pt b13 0), (pt b26 0), (pt b23 0)] mk0 (mk6 rfl rfl rfl rfl rfl rfl) ?_)
 refine WL.stepN (OpT.storeS st28 0 (.func (.func 49) #[] #[(pt b10 0), (pt b20 0), (pt b1 0), (pt b13 0), (pt b26 0), (pt b23 0)]) rfl ts111 rfl rfl rfl rfl rfl (fun w29 st30 => ?_))
 refine Wnt ?_
 refine WC.seq ?_
 refine Wsr ?_
 refine W1 (OpT.loadS ⟨b1, 0, none⟩ (.map (some mb)) ta77 rfl (st30.cellB (i := 7) rfl rfl) ?_)
 refine W1 (OpT.callS cal28 [] [] [(.map (some mb))] rfl (ca1 rfl) (namesG_spec hg ok (St.selD 9 [8, 0, 1, 2, 3, 4, 5, 6, 7] rfl rfl (by decide) st30)) ?_)
 rintro v34 w35 ⟨Z31, hx32, hn33, st36⟩
 have hgn := hg.ext hx32
 refine W1 (OpT.lenR rfl tu37 hn33 rfl ?_)
 refine W1 (OpT.move (ii 0) rfl ?_)
 refine Wnt ?_
 refine WC.block ?_
 obtain ⟨gb, rfl⟩ : ∃ x, x = b1 := ⟨_, rfl⟩
 obtain ⟨ib, rfl⟩ : ∃ x, x = b13 := ⟨_, rfl⟩
 obtain ⟨ob, rfl⟩ : ∃ x, x = b23 := ⟨_, rfl⟩
 obtain ⟨vb, rfl⟩ : ∃ x, x = b26 := ⟨_, rfl⟩
 obtain ⟨lb, rfl⟩ : ∃ x, x = b10 := ⟨_, rfl⟩
 obtain ⟨sb, rfl⟩ : ∃ x, x = b20 := ⟨_, rfl⟩
 obtain ⟨lm, rfl⟩ : ∃ x, x = b4 := ⟨_, rfl⟩
 obtain ⟨im, rfl⟩ : ∃ x, x = b7 := ⟨_, rfl⟩
 have st37 := (st36.rowNil 37 1).rowNil 9 1
 have st38 : St Z31 w35 w35 (PJ lb lm sb gb mb ib im vb ob mv vn vn [] ts0 L) := (St.selD 11 [7, 9, 5, 0, 10, 2, 6, 8, 3, 4, 1] rfl rfl (by decide) st37)
 refine WC.loop (fun m ρ wz => ∃ (i : Nat), ∃ (Z1 : Nat → Prop), ∃ (w1 : World), ∃ (sv1 : Value), ∃ (ov1 : Value), ∃ (cells1 : List Value), ∃ (σi : TS), m = (namesG g).length - i ∧ i ≤ (namesG g).length ∧ ((namesG g).take i).foldlM (pStep g) ts0 = some σi ∧ Ext Z31 w35 Z1 w1 ∧ RowsOf (rSls.R Z1 w1) 1 cells1 σi.out ∧ ρ 19 = (ni i) ∧ ρ 5 = (pt ib 0) ∧ ρ 7 = (pt ob 0) ∧ ρ 8 = (pt vb 0) ∧ ρ 17 = v34 ∧ ρ 18 = (.int .i64 ((((namesG g).length : Nat) : Int))) ∧ St Z1 w1 wz (Blk lb 79 [(.map (some lm))] :: Mi lm σi.low :: Blk sb 37 [sv1] :: Row 9 1 sv1 σi.stk.length (σi.stk.map Value.string) :: Blk gb 77 [(.map (some mb))] :: Mv mb mv :: Blk ib 79 [(.map (some im))] :: Mi im σi.inn :: Blk vb 111 [(.func (.func 49) #[] #[(pt lb 0), (pt sb 0), (pt gb 0), (pt ib 0), (pt vb 0), (pt ob 0)])] :: Blk ob 80 [ov1] :: Row 37 1 ov1 σi.out.length cells1 :: L)) _ ⟨0, Z31, w35, vn, vn, [], ts0, rfl, by omega, rfl, Ext.refl _ _, RowsOf.nil, rfl, rfl, rfl, rfl, rfl, rfl, st38⟩ ?_
 rintro m39 ρ40 w41 ⟨i, Z1, w1, sv1, ov1, cells1, σi, hm50, hp43, HF, hxx, HR, hs44, hs45, hs46, hs47, hs48, hs49, st42⟩
 have hnm := hxx.sl hn33
 have hal := Rl.sl_le hn33
 have hg1 := hgn.ext hxx
 have osv := st42.rowOne (i := 3) rfl
 have csv := st42.rowCel (i := 3) rfl
 have oov := st42.rowOne (i := 10) rfl
 have cov := st42.rowCel (i := 10) rfl
 refine Wsr ?_
 refine W1 (OpT.ilt .i64 (((i : Nat) : Int)) ((((namesG g).length : Nat) : Int)) hs44 hs49 ?_)
 refine Wnt ?_
 refine WC.seq ?_
 refine WC.condP (((i : Nat) : Int) < (((namesG g).length : Nat) : Int)) rfl (fun h51 => ?_) (fun h51 => ?_)
 ·refine WC.skip ?_
  refine thenQ_n ?_
  refine WC.seq ?_
  refine WC.block ?_
  refine Wsr ?_
  obtain ⟨x52, hx52⟩ : ∃ x, (namesG g)[i]? = some x := ⟨_, List.getElem?_eq_getElem (by omega)⟩
  refine W1 (OpT.idxX tu37 ts9 hnm hs48 .i64 (i) hs44 hx52 (fun ad53 cs54 hr55 hR56 => ?_))
  have hR56c := hR56
  obtain rfl := hR56
  refine W1 (OpT.loadS ad53 (.string x52) ta9 rfl (hr55.cell st42 (j := 0) rfl) ?_)
  refine W1 (OpT.assign (.string x52) rfl ?_)
  refine Wnt ?_
  refine WC.seq ?_
  obtain ⟨q1, hq1, hq2⟩ := fold_at hall.1 HF hx52
  refine WC.region ?_
  refine W1 (OpT.loadS ⟨ib, 0, none⟩ (.map (some im)) ta79 hs45 (st42.cellB (i := 6) rfl rfl) ?_)
  refine W1 (OpT.move (.string x52) rfl ?_)
  refine W1 (OpT.lookupOkI st42 7 rfl ko9 tu79 tz3 (x52) rfl rfl ?_)
  refine W1 (OpT.move (.tuple #[(.int .i64 (((mget σi.inn x52).getD 0))), (.bool ((mget σi.inn x52).isSome))]) rfl ?_)
  refine W1 (OpT.extract [(.int .i64 (((mget σi.inn x52).getD 0))), (.bool ((mget σi.inn x52).isSome))] (.int .i64 (((mget σi.inn x52).getD 0))) rfl rfl ?_)
  refine W1 (OpT.extract [(.int .i64 (((mget σi.inn x52).getD 0))), (.bool ((mget σi.inn x52).isSome))] (.bool ((mget σi.inn x52).isSome)) rfl rfl ?_)
  refine W1 (OpT.assign (.int .i64 (((mget σi.inn x52).getD 0))) rfl ?_)
  refine W1 (OpT.assign (.bool ((mget σi.inn x52).isSome)) rfl ?_)
  refine Wns ?_
  refine W1 (OpT.move (.bool ((mget σi.inn x52).isSome)) rfl ?_)
  refine W1 (OpT.not ((mget σi.inn x52).isSome) rfl ?_)
  refine Wnt ?_
  refine WC.cond ((!((mget σi.inn x52).isSome))) rfl (fun h57 => ?_) (fun h57 => ?_)
  ·refine WC.region ?_
   refine W1 (OpT.loadS ⟨vb, 0, none⟩ (.func (.func 49) #[] #[(pt lb 0), (pt sb 0), (pt gb 0), (pt ib 0), (pt vb 0), (pt ob 0)]) ta111 hs47 (st42.cellB (i := 8) rfl rfl) ?_)
   refine W1 (OpT.move (.string x52) rfl ?_)
   obtain ⟨⟨r1, σn⟩, hv1⟩ : ∃ p, visitF g (g.length + 1) x52 σi = some p := by cases hv : visitF g (g.length + 1) x52 σi with | none => (simp [pStep, hv, (show (mget σi.inn x52).isSome = false from by simpa using h57)] at hq1) | some p => exact ⟨p, rfl⟩
   refine W1 (OpT.callS cal49 [] [(pt lb 0), (pt sb 0), (pt gb 0), (pt ib 0), (pt vb 0), (pt ob 0)] [(.string x52), (pt lb 0), (pt sb 0), (pt gb 0), (pt ib 0), (pt vb 0), (pt ob 0)] rfl (ca1 rfl) (visit_spec (g.length + 1) x52 σi r1 σn hv1 hg1 HR st42) ?_)
   rintro v65 w66 ⟨rfl, Z58, w59, sv60, ov61, cells62, hx63, hR64, st67⟩
   refine WL.nil ?_
   refine blkQ_n ?_
   refine thenQ_n ?_
   refine WC.region ?_
   refine W1 (OpT.iadd .i64 (((i : Nat) : Int)) (1) (((i + 1 : Nat) : Int)) hs44 rfl (wadd (a := i) (b := 1) (by omega)) ?_)
   refine W1 (OpT.move (ni (i + 1)) rfl ?_)
   refine WL.nil ?_
   have hs68 : pStep g σi x52 = some σn := by simp [pStep, (show (mget σi.inn x52).isSome = false from by simpa using h57), hv1]
   exact loopQ_n _ (by omega) ⟨i + 1, Z58, w59, sv60, ov61, cells62, σn, rfl, by omega, hq2.trans (hq1.symm.trans hs68), hxx.trans hx63, hR64, rfl, hs45, hs46, hs47, hs48, hs49, st67⟩
  refine WC.skip ?_
  refine blkQ_n ?_
  refine thenQ_n ?_
  refine WC.region ?_
  refine W1 (OpT.iadd .i64 (((i : Nat) : Int)) (1) (((i + 1 : Nat) : Int)) hs44 rfl (wadd (a := i) (b := 1) (by omega)) ?_)
  refine W1 (OpT.move (ni (i + 1)) rfl ?_)
  refine WL.nil ?_
  have hs69 : pStep g σi x52 = some σi := by simp [pStep, (show (mget σi.inn x52).isSome = true from by simpa using h57)]
  exact loopQ_n _ (by omega) ⟨i + 1, Z1, w1, sv1, ov1, cells1, σi, rfl, by omega, hq2.trans (hq1.symm.trans hs69), hxx, HR, rfl, hs45, hs46, hs47, hs48, hs49, st42⟩
 refine WC.exit ?_
 refine thenQ_x ?_
 refine loopQ_x ?_
 refine blkQ_hit ?_
 refine thenQ_n ?_
 refine WC.seq ?_
 refine WC.draw 4 (fun jj vv => match jj with | 0 => vv = (.map (some im)) | 1 => vv = ov1 | 2 => vv = (.map (some im)) | 3 => vv = ov1 | _ => True) (fun _ _ => []) st42 fmix (by kernel_rfl) ((obS (obS (obS (obS ob0 ?_) ?_) ?_) ?_)) ?_
 ·intro vals ρ w71 X hd h0 st70
  have e72 : ρ 5 = (pt ib 0) := (h0 5 rfl).trans hs45
  refine W1 (OpT.loadS ⟨ib, 0, none⟩ (.map (some im)) ta79 e72 (st70.cellB (i := 6) rfl rfl) ?_)
  refine WL.nil ?_
  exact oneQ.mk ⟨rfl, st70⟩
 ·intro vals ρ w74 X hd h0 st73
  have e75 : ρ 7 = (pt ob 0) := (h0 7 rfl).trans hs46
  refine W1 (OpT.loadS ⟨ob, 0, none⟩ ov1 ta80 e75 (st73.cellB (i := 9) rfl rfl) ?_)
  refine WL.nil ?_
  exact oneQ.mk ⟨rfl, st73⟩
 ·intro vals ρ w77 X hd h0 st76
  have e78 : ρ 35 = (.map (some im)) := ((hd 0 rfl).2 35 rfl).trans (hd 0 rfl).1
  refine W1 (OpT.assign (.map (some im)) e78 ?_)
  refine WL.nil ?_
  exact oneQ.mk ⟨rfl, st76⟩
 ·intro vals ρ w80 X hd h0 st79
  have e81 : ρ 36 = ov1 := ((hd 1 rfl).2 36 rfl).trans (hd 1 rfl).1
  refine W1 (OpT.assign ov1 e81 ?_)
  refine WL.nil ?_
  exact oneQ.mk ⟨rfl, st79⟩
 intro vals ρ84 w83 hv h0 st82
 replace st82 : St Z1 w1 w83 (Blk lb 79 [(.map (some lm))] :: Mi lm σi.low :: Blk sb 37 [sv1] :: Row 9 1 sv1 σi.stk.length (σi.stk.map Value.string) :: Blk gb 77 [(.map (some mb))] :: Mv mb mv :: Blk ib 79 [(.map (some im))] :: Mi im σi.inn :: Blk vb 111 [(.func (.func 49) #[] #[(pt lb 0), (pt sb 0), (pt gb 0), (pt ib 0), (pt vb 0), (pt ob 0)])] :: Blk ob 80 [ov1] :: Row 37 1 ov1 σi.out.length cells1 :: L) := st82
 have e85 : ρ84 2 = (.map (some im)) := ((hv 2 rfl).2 2 rfl).trans (hv 2 rfl).1
 have e86 : ρ84 3 = ov1 := ((hv 3 rfl).2 3 rfl).trans (hv 3 rfl).1
 clear hv h0
 refine Wnt ?_
 refine WC.ret <| retQ.two (.map (some im)) ov1 e85 e86 ?_
 have eT : (namesG g).take i = namesG g := List.take_of_length_le (by omega)
 rw [eT, hall.1] at HF
 have e9 := Option.some.inj HF
 subst e9
 obtain ⟨Z2, hx2, hs2, st2⟩ := St.freezeRow (r := rSls) ((St.selD 11 [10, 7, 5] rfl rfl (by decide) st82) : St Z1 w1 w83 (Row 37 1 ov1 σ.out.length cells1 :: Mi im σ.inn :: Mv mb mv :: L)) (by have := hall.2; omega) HR.2
 exact ⟨_, rfl, im, ov1, Z2, _, rfl, hx32.trans (hxx.trans hx2), hs2, st2⟩

end Go.Ped
set_option linter.unusedVariables false
set_option maxRecDepth 20000
namespace Go.Ped
open Go Go.Eng Go.RowKit Go.Proofs

theorem ta25 : aggB Tryz.prog 25 = some true := by kernel_rfl
theorem ts25 : sizeB Tryz.prog 25 = some 1 := by kernel_rfl
theorem cal7 : CallOk Tryz.prog 7 := ⟨⟨Tryz.f7, Tryz.func7, rfl, by decide⟩⟩
theorem cal26 : CallOk Tryz.prog 26 := ⟨⟨Tryz.f26, Tryz.func26, rfl, by decide⟩⟩
theorem cal27 : CallOk Tryz.prog 27 := ⟨⟨Tryz.f27, Tryz.func27, rfl, by decide⟩⟩
theorem tf35_0 : fieldB Tryz.prog 35 0 = some 0 := by kernel_rfl
theorem tf35_1 : fieldB Tryz.prog 35 1 = some 1 := by kernel_rfl
theorem tf35_3 : fieldB Tryz.prog 35 3 = some 3 := by kernel_rfl
theorem tu83 : Tryz.prog.underlying 83 = some (.map 9 21) := by kernel_rfl
theorem tz21 : zeroB Tryz.prog 21 = some (.int .i32 (0)) := by kernel_rfl
theorem tp41 : placesB Tryz.prog 41 = some [(0, 1), (1, 1)] := by kernel_rfl
theorem tz41 : zeroB Tryz.prog 41 = some (.agg #[(.string (⟨#[]⟩ : ByteArray)), (.int .i32 (0))]) := by kernel_rfl
theorem tu28 : Tryz.prog.underlying 28 = some (.slice 41) := by kernel_rfl
theorem ts41 : sizeB Tryz.prog 41 = some 2 := by kernel_rfl
theorem tb41 : (Tryz.prog.info? 41).map (·.bytes) = some 24 := by kernel_rfl
theorem rowsE {Z : Nat → Prop} {w0 : World} (es : List Edg) : RowsOf (rEdg.R Z w0) 4 (es.flatMap ecs) es := by
  have : ∀ (es pre : List Edg) (cs : List Value), RowsOf (rEdg.R Z w0) 4 cs pre → RowsOf (rEdg.R Z w0) 4 (cs ++ es.flatMap ecs) (pre ++ es) := by
    intro es
    induction es with
    | nil => intro pre cs h; simpa using h
    | cons e es ih =>
      intro pre cs h
      have := ih (pre ++ [e]) (cs ++ ecs e) (h.snoc rfl rfl)
      simpa using this
  simpa using this es [] [] RowsOf.nil
structure Lvl where
  pred : ByteArray
  n : Int
  deriving DecidableEq
def lcs (x : Lvl) : List Value := [.string x.pred, .int .i32 x.n]
abbrev Li := List (ByteArray × Int)
def iget (m : Li) (k : ByteArray) : Int := (mget m k).getD 0
def blB (m : Li) (e : Edg) : Bool := decide (e.kind ≠ 1) && decide (iget m e.frm = iget m e.to)
def codeF (k : Int) : Int := if k = 2 then 90 else if k = 3 then 91 else 92
def lvStep (q : Li × Bool) (e : Edg) : Option (Li × Bool) :=
  if 0 ≤ iget q.1 e.to ∧ iget q.1 e.to < 1000000000 then
    (if iget q.1 e.frm < (if e.kind = 1 then iget q.1 e.to else iget q.1 e.to + 1) then some (mset q.1 e.frm (if e.kind = 1 then iget q.1 e.to else iget q.1 e.to + 1), true) else some q)
  else none
def lvRun : Nat → List Edg → Li → Option Li
  | 0, _, _ => none
  | k + 1, es, n => (es.foldlM lvStep (n, false)).bind fun q => if q.2 then lvRun k es q.1 else some q.1
def lvsOf (n : Li) (l : List ByteArray) : List Lvl := l.map fun s => ⟨s, iget n s⟩
def levF (K : Nat) (rs : List Rul) : Option (List Lvl × Int × Int) :=
  (partsF (drawF rs)).bind fun σ => match (edgesF rs).find? (blB σ.inn) with
    | some e => some ([], e.rule, codeF e.kind)
    | none => (lvRun K (edgesF rs) []).map fun n => (lvsOf n (namesG (drawF rs)), 0, 0)
theorem lvStep_inv {q q' : Li × Bool} {e : Edg} (h : lvStep q e = some q') : 0 ≤ iget q.1 e.to ∧ iget q.1 e.to < 1000000000 ∧ (if iget q.1 e.frm < (if e.kind = 1 then iget q.1 e.to else iget q.1 e.to + 1) then some (mset q.1 e.frm (if e.kind = 1 then iget q.1 e.to else iget q.1 e.to + 1), true) else some q) = some q' := by
  unfold lvStep at h
  split at h
  · rename_i hb; exact ⟨hb.1, hb.2, h⟩
  · cases h
theorem lvRun_inv {k : Nat} {es : List Edg} {n fin : Li} (h : lvRun k es n = some fin) : ∃ k' q, k = k' + 1 ∧ es.foldlM lvStep (n, false) = some q ∧ (if q.2 then lvRun k' es q.1 else some q.1) = some fin := by
  cases k with
  | zero => cases h
  | succ k =>
    unfold lvRun at h
    cases hf : es.foldlM lvStep (n, false) with
    | none => rw [hf] at h; cases h
    | some q => rw [hf] at h; exact ⟨k, q, rfl, rfl, h⟩
theorem find_none {α : Type} {p : α → Bool} {xs : List α} (h : (xs.take xs.length).all (fun x => !p x) = true) : xs.find? p = none := by
  rw [List.take_length] at h
  rw [List.find?_eq_none]
  intro x hx
  have := List.all_eq_true.1 h x hx
  simpa using this
theorem find_at {α : Type} {p : α → Bool} {xs : List α} {i : Nat} {x : α} (hx : xs[i]? = some x) (h : (xs.take i).all (fun x => !p x) = true) (hp : p x = true) : xs.find? p = some x := by
  obtain ⟨h1, h2⟩ := List.getElem?_eq_some_iff.1 hx
  have e : xs = xs.take i ++ x :: xs.drop (i + 1) := by rw [← h2]; simp
  rw [e, List.find?_append, List.find?_eq_none.2, List.find?_cons_of_pos hp]
  · rfl
  · intro y hy
    have := List.all_eq_true.1 h y hy
    simpa using this
theorem all_step {α : Type} {p : α → Bool} {xs : List α} {i : Nat} {x : α} (hx : xs[i]? = some x) (h : (xs.take i).all (fun x => !p x) = true) (hp : p x = false) : (xs.take (i + 1)).all (fun x => !p x) = true := by
  rw [List.take_add_one, hx, List.all_append, h]; simp [hp]
theorem lvs_step {n : Li} {l : List ByteArray} {i : Nat} {x : ByteArray} (hx : l[i]? = some x) : lvsOf n (l.take (i + 1)) = lvsOf n (l.take i) ++ [⟨x, iget n x⟩] := by
  rw [List.take_add_one, hx, lvsOf, List.map_append]; rfl
theorem Levels_spec {Z : Nat → Prop} {w0 w : World} {L : List Res} (st : St Z w0 w L) {K : Nat} (rv : Value) (rs : List Rul) (hr : rRul.sl Z w0 rv rs) (HB : Bnd rs) (ok : GOk (drawF rs)) {ls : List Lvl} {n e : Int} (hv0 : levF K rs = some (ls, n, e)) : Calls Tryz.prog 8 #[(.agg #[rv])] w (Ret fun r w' => ∃ v : Value, v.oneCell' = true ∧ v.cells = #[v] ∧ r = .tuple #[v, .int .i64 n, .int .i64 e] ∧ St Z w0 w' (Row 41 2 v ls.length (ls.flatMap lcs) :: L)) := by
 have hal0 := Rl.sl_le hr
 obtain ⟨σ, hp, hv⟩ := Option.bind_eq_some_iff.1 hv0
 refine calls_of_WC (m := 106) (rs := [.tmp 2, .tmp 3, .tmp 4]) Tryz.func8 rfl rfl rfl rfl ?_
 refine Wsr ?_
 refine W1 (OpT.box st (.agg #[rv]) [rv] rfl rfl (fun b1 w2 st3 => ?_))
 refine W1 (OpT.assign vn rfl ?_)
 refine W1 (OpT.assign (ii 0) rfl ?_)
 refine W1 (OpT.assign (ii 0) rfl ?_)
 refine Wnt ?_
 refine WC.scope 0 (K) rfl ?_
 refine WC.seq ?_
 refine WC.drawV2 3 (fun jj vals vv => match jj with | 0 => vv = (.agg #[rv]) | 1 => vv.oneCell' = true ∧ vv.cells = #[vv] | 2 => vv = (.agg #[rv]) | _ => True) (fun jj vals vv => match jj with | 1 => [Row 35 4 vv (edgesF rs).length ((edgesF rs).flatMap ecs)] | _ => []) st3 fmix (by kernel_rfl) ((obS (obS (obS ob0 (fun aa bb vv h hf => hf)) (fun aa bb vv h hf => hf)) (fun aa bb vv h hf => hf))) ((obS (obS (obS ob0 (fun aa bb vv h => rfl)) (fun aa bb vv h => rfl)) (fun aa bb vv h => rfl))) ((obS (obS (obS ob0 ?_) ?_) ?_)) ?_
 ·intro vals ρ w5 X hd h0 st4
  have e6 : ρ 1 = (pt b1 0) := (h0 1 rfl).trans rfl
  refine W1 (OpT.loadA ⟨b1, 0, none⟩ 1 [rv] ta25 ts25 e6 ((st4.rowB (i := 0) rfl).part 0 1) rfl ?_)
  refine WL.nil ?_
  exact oneQ.mk ⟨rfl, st4⟩
 ·intro vals ρ w8 X hd h0 st7
  have e9 : ρ 19 = (.agg #[rv]) := ((hd 0 rfl).2 19 rfl).trans (hd 0 rfl).1
  refine W1 (OpT.callS cal7 [] [] [(.agg #[rv])] rfl (ca1 e9) (Edges_spec st7 _ rs hr HB) ?_)
  rintro v12 w13 ⟨o10, c11, st14⟩
  refine WL.nil ?_
  exact oneQ.mk ⟨⟨o10, c11⟩, st14⟩
 ·intro vals ρ w16 X hd h0 st15
  have e17 : ρ 1 = (pt b1 0) := (h0 1 rfl).trans rfl
  refine W1 (OpT.loadA ⟨b1, 0, none⟩ 1 [rv] ta25 ts25 e17 ((st15.rowB (i := 0) rfl).part 0 1) rfl ?_)
  refine WL.nil ?_
  exact oneQ.mk ⟨rfl, st15⟩
 intro vals ρ20 w19 hv h0 st18
 replace st18 : St Z w0 w19 (Row 35 4 (vals 1) (edgesF rs).length ((edgesF rs).flatMap ecs) :: Blk b1 25 [rv] :: L) := st18
 have e21 : ρ20 1 = (pt b1 0) := (h0 1 rfl).trans rfl
 have e22 : ρ20 19 = (.agg #[rv]) := ((hv 0 rfl).2 19 rfl).trans (hv 0 rfl).1
 have o23 : (vals 1).oneCell' = true := (hv 1 rfl).1.1
 have c24 : (vals 1).cells = #[vals 1] := (hv 1 rfl).1.2
 have e25 : ρ20 20 = (vals 1) := ((hv 1 rfl).2 20 rfl)
 have e26 : ρ20 21 = (.agg #[rv]) := ((hv 2 rfl).2 21 rfl).trans (hv 2 rfl).1
 have o27 : (vals 1).oneCell' = true := (hv 1 rfl).1.1
 have c28 : (vals 1).cells = #[vals 1] := (hv 1 rfl).1.2
 clear hv h0
 generalize vals 1 = v29 at *
 refine W1 (OpT.callS cal26 [] [] [(.agg #[rv])] rfl (ca1 e26) (draw_spec st18 _ rs hr HB) ?_)
 rintro v36 w37 ⟨mb30, mv31, Z32, w33, hx34, rfl, hg35, st38⟩
 have hL39 := hx34.sl hr
 refine W1 (OpT.assign v29 e25 ?_)
 refine W1 (OpT.assign (.map (some mb30)) rfl ?_)
 refine Wnt ?_
 refine WC.seq ?_
 obtain ⟨Z40, hx41, hs42, st43⟩ := St.freezeRow (r := rEdg) (xs := edgesF rs) ((St.selD 3 [1, 0, 2] rfl rfl (by decide) st38) : St Z32 w33 w37 (Row 35 4 v29 (edgesF rs).length ((edgesF rs).flatMap ecs) :: Mv mb30 mv31 :: Blk b1 25 [rv] :: L)) (by have := edgesF_len rs; have := HB.b; omega) (rowsE (edgesF rs)).2
 have hg44 := hg35.ext hx41
 have hL45 := hx41.sl hL39
 refine WC.region ?_
 refine W1 (OpT.move (.map (some mb30)) rfl ?_)
 refine W1 (OpT.callS cal27 [] [] [(.map (some mb30))] rfl (ca1 rfl) (parts_spec hg44 ok hp st43) ?_)
 rintro v52 w53 ⟨im46, ov47, Z48, w49, rfl, hx50, hs51, st54⟩
 have hg55 := hg44.ext hx50
 have hL56 := hx50.sl hL45
 have hL57 := hx50.sl hs42
 refine W1 (OpT.move (.tuple #[(.map (some im46)), ov47]) rfl ?_)
 refine W1 (OpT.extract [(.map (some im46)), ov47] (.map (some im46)) rfl rfl ?_)
 refine W1 (OpT.extract [(.map (some im46)), ov47] ov47 rfl rfl ?_)
 refine W1 (OpT.assign (.map (some im46)) rfl ?_)
 refine W1 (OpT.assign ov47 rfl ?_)
 refine Wnt ?_
 refine WC.seq ?_
 refine Wsr ?_
 refine W1 (OpT.move v29 rfl ?_)
 refine W1 (OpT.lenR rfl tu26 hL57 rfl ?_)
 refine W1 (OpT.move (ii 0) rfl ?_)
 refine Wnt ?_
 refine WC.block ?_
 have st58 : St Z48 w49 w53 (Mi im46 σ.inn :: Mv mb30 mv31 :: L) := St.selT [Mi im46 σ.inn, Mv mb30 mv31, Blk b1 25 [rv]] [0, 1] rfl (by decide) st54
 refine WC.loop (fun m ρ wz => ∃ (i : Nat), m = (edgesF rs).length - i ∧ i ≤ (edgesF rs).length ∧ ((edgesF rs).take i).all (fun e => !blB σ.inn e) = true ∧ ρ 30 = (ni i) ∧ ρ 1 = (pt b1 0) ∧ ρ 5 = v29 ∧ ρ 6 = (.map (some mb30)) ∧ ρ 7 = (.map (some im46)) ∧ ρ 19 = (.agg #[rv]) ∧ ρ 20 = v29 ∧ ρ 21 = (.agg #[rv]) ∧ ρ 22 = (.map (some mb30)) ∧ ρ 23 = (.tuple #[(.map (some im46)), ov47]) ∧ ρ 24 = (.map (some mb30)) ∧ ρ 25 = (.tuple #[(.map (some im46)), ov47]) ∧ ρ 26 = (.map (some im46)) ∧ ρ 27 = ov47 ∧ ρ 28 = v29 ∧ ρ 29 = (.int .i64 ((((edgesF rs).length : Nat) : Int))) ∧ St Z48 w49 wz (Mi im46 σ.inn :: Mv mb30 mv31 :: L)) _ ⟨0, rfl, by omega, rfl, rfl, e21, rfl, rfl, rfl, e22, e25, e26, rfl, rfl, rfl, rfl, rfl, rfl, rfl, rfl, st58⟩ ?_
 rintro m59 ρ60 w61 ⟨i, hm80, hp63, HB0, hs64, hs65, hs66, hs67, hs68, hs69, hs70, hs71, hs72, hs73, hs74, hs75, hs76, hs77, hs78, hs79, st62⟩
 have hal := Rl.sl_le hL57
 refine Wsr ?_
 refine W1 (OpT.ilt .i64 (((i : Nat) : Int)) ((((edgesF rs).length : Nat) : Int)) hs64 hs79 ?_)
 refine Wnt ?_
 refine WC.seq ?_
 refine WC.condP (((i : Nat) : Int) < (((edgesF rs).length : Nat) : Int)) rfl (fun h81 => ?_) (fun h81 => ?_)
 ·refine WC.skip ?_
  refine thenQ_n ?_
  refine WC.seq ?_
  refine WC.block ?_
  refine Wsr ?_
  obtain ⟨x82, hx82⟩ : ∃ x, (edgesF rs)[i]? = some x := ⟨_, List.getElem?_eq_getElem (by omega)⟩
  refine W1 (OpT.idxX tu26 ts35 hL57 hs78 .i64 (i) hs64 hx82 (fun ad83 cs84 hr85 hR86 => ?_))
  have hR86c := hR86
  obtain rfl := hR86
  refine W1 (OpT.loadA ad83 4 [(.string x82.frm), (.string x82.to), (.int .i8 (x82.kind)), (.int .i64 (x82.rule))] ta35 ts35 rfl ((hr85.at st62).part 0 4) rfl ?_)
  refine W1 (OpT.alloc st62 (.agg #[ve, ve, (.int .i8 (0)), (ii 0)]) [ve, ve, (.int .i8 (0)), (ii 0)] tz35 rfl (fun b87 w88 st89 => ?_))
  refine WL.stepN (OpT.storeA st89 0 4 [(.string x82.frm), (.string x82.to), (.int .i8 (x82.kind)), (.int .i64 (x82.rule))] rfl ts35 rfl rfl rfl rfl rfl (fun w90 st91 => ?_))
  refine Wnt ?_
  refine WC.seq ?_
  refine Wsr ?_
  refine W1 (OpT.field 2 ⟨b87, 0, none⟩ ⟨b87, 2, none⟩ tf35_2 rfl rfl ?_)
  refine W1 (OpT.loadS ⟨b87, 2, none⟩ (.int .i8 (x82.kind)) ta33 rfl (st91.cellB (i := 0) rfl rfl) ?_)
  refine W1 (OpT.ieq .i8 (x82.kind) (1) rfl rfl ?_)
  refine W1 (OpT.move (.bool (decide (x82.kind = 1))) rfl ?_)
  by_cases h92 : x82.kind = 1
  ·refine WL.pass (dj := 37) (c := true) rfl rfl rfl (bT h92) rfl ?_
   refine WL.pass (dj := 37) (c := true) rfl rfl rfl (bT h92) rfl ?_
   refine WL.pass (dj := 37) (c := true) rfl rfl rfl (bT h92) rfl ?_
   refine WL.pass (dj := 37) (c := true) rfl rfl rfl (bT h92) rfl ?_
   refine WL.pass (dj := 37) (c := true) rfl rfl rfl (bT h92) rfl ?_
   refine WL.pass (dj := 37) (c := true) rfl rfl rfl (bT h92) rfl ?_
   refine WL.pass (dj := 37) (c := true) rfl rfl rfl (bT h92) rfl ?_
   refine WL.pass (dj := 37) (c := true) rfl rfl rfl (bT h92) rfl ?_
   refine WL.pass (dj := 37) (c := true) rfl rfl rfl (bT h92) rfl ?_
   refine W1 (OpT.pickT (.bool true) (bT h92) rfl ?_)
   refine Wnt ?_
   refine WC.condT rfl ?_
   refine WC.exit ?_
   refine thenQ_x ?_
   refine blkQ_hit ?_
   refine thenQ_n ?_
   refine WC.region ?_
   refine W1 (OpT.iadd .i64 (((i : Nat) : Int)) (1) (((i + 1 : Nat) : Int)) hs64 rfl (wadd (a := i) (b := 1) (by omega)) ?_)
   refine W1 (OpT.move (ni (i + 1)) rfl ?_)
   refine WL.nil ?_
   have st93 : St Z48 w49 w90 (Mi im46 σ.inn :: Mv mb30 mv31 :: L) := St.selT [Blk b87 35 [(.string x82.frm), (.string x82.to), (.int .i8 (x82.kind)), (.int .i64 (x82.rule))], Mi im46 σ.inn, Mv mb30 mv31] [1, 2] rfl (by decide) st91
   exact loopQ_n _ (by omega) ⟨i + 1, rfl, by omega, all_step hx82 HB0 (by unfold blB iget; simp [h92]), rfl, hs65, hs66, hs67, hs68, hs69, hs70, hs71, hs72, hs73, hs74, hs75, hs76, hs77, hs78, hs79, st93⟩
  refine W2 (dj := 37) (bF h92) (OpT.move (.map (some im46)) hs68 ?_)
  refine W2 (dj := 37) (bF h92) (OpT.field 0 ⟨b87, 0, none⟩ ⟨b87, 0, none⟩ tf35_0 rfl rfl ?_)
  refine W2 (dj := 37) (bF h92) (OpT.loadS ⟨b87, 0, none⟩ (.string x82.frm) ta9 rfl (st91.cellB (i := 0) rfl rfl) ?_)
  refine W2 (dj := 37) (bF h92) (OpT.lookupI st91 1 rfl ko9 tu79 tz3 (x82.frm) rfl rfl ?_)
  refine W2 (dj := 37) (bF h92) (OpT.move (.map (some im46)) hs68 ?_)
  refine W2 (dj := 37) (bF h92) (OpT.field 1 ⟨b87, 0, none⟩ ⟨b87, 1, none⟩ tf35_1 rfl rfl ?_)
  refine W2 (dj := 37) (bF h92) (OpT.loadS ⟨b87, 1, none⟩ (.string x82.to) ta9 rfl (st91.cellB (i := 0) rfl rfl) ?_)
  refine W2 (dj := 37) (bF h92) (OpT.lookupI st91 1 rfl ko9 tu79 tz3 (x82.to) rfl rfl ?_)
  refine W2 (dj := 37) (bF h92) (OpT.ine .i64 (((mget σ.inn x82.frm).getD 0)) (((mget σ.inn x82.to).getD 0)) rfl rfl ?_)
  refine W1 (OpT.pickF (.bool (decide (((mget σ.inn x82.frm).getD 0) ≠ ((mget σ.inn x82.to).getD 0)))) (bF h92) rfl ?_)
  refine Wnt ?_
  refine WC.condP (((mget σ.inn x82.frm).getD 0) ≠ ((mget σ.inn x82.to).getD 0)) rfl (fun h94 => ?_) (fun h94 => ?_)
  ·refine WC.exit ?_
   refine thenQ_x ?_
   refine blkQ_hit ?_
   refine thenQ_n ?_
   refine WC.region ?_
   refine W1 (OpT.iadd .i64 (((i : Nat) : Int)) (1) (((i + 1 : Nat) : Int)) hs64 rfl (wadd (a := i) (b := 1) (by omega)) ?_)
   refine W1 (OpT.move (ni (i + 1)) rfl ?_)
   refine WL.nil ?_
   have st95 : St Z48 w49 w90 (Mi im46 σ.inn :: Mv mb30 mv31 :: L) := St.selT [Blk b87 35 [(.string x82.frm), (.string x82.to), (.int .i8 (x82.kind)), (.int .i64 (x82.rule))], Mi im46 σ.inn, Mv mb30 mv31] [1, 2] rfl (by decide) st91
   exact loopQ_n _ (by omega) ⟨i + 1, rfl, by omega, all_step hx82 HB0 (by unfold blB iget; simp [h92, h94]), rfl, hs65, hs66, hs67, hs68, hs69, hs70, hs71, hs72, hs73, hs74, hs75, hs76, hs77, hs78, hs79, st95⟩
  refine WC.skip ?_
  refine thenQ_n ?_
  refine Wsr ?_
  refine W1 (OpT.field 2 ⟨b87, 0, none⟩ ⟨b87, 2, none⟩ tf35_2 rfl rfl ?_)
  refine W1 (OpT.loadS ⟨b87, 2, none⟩ (.int .i8 (x82.kind)) ta33 rfl (st91.cellB (i := 0) rfl rfl) ?_)
  refine Wnt ?_
  refine WC.block ?_
  refine Wsr ?_
  refine W1 (OpT.ieq .i8 (x82.kind) (2) rfl rfl ?_)
  refine W1 (OpT.assign (.bool (decide (x82.kind = 2))) rfl ?_)
  refine Wnt ?_
  refine WC.condP (x82.kind = 2) rfl (fun h96 => ?_) (fun h96 => ?_)
  ·refine WC.seq ?_
   refine WC.draw 5 (fun jj vv => match jj with | 0 => vv = (pt b87 3) | 1 => vv = (.int .i64 (x82.rule)) | 2 => vv = vn | 3 => vv = (.int .i64 (x82.rule)) | 4 => vv = (ii 90) | _ => True) (fun _ _ => []) st91 fmix (by kernel_rfl) ((obS (obS (obS (obS (obS ob0 ?_) ?_) ?_) ?_) ?_)) ?_
   ·intro vals ρ w98 X hd h0 st97
    have e99 : ρ 10 = (pt b87 0) := (h0 10 rfl).trans rfl
    refine W1 (OpT.field 3 ⟨b87, 0, none⟩ ⟨b87, 3, none⟩ tf35_3 e99 rfl ?_)
    refine WL.nil ?_
    exact oneQ.mk ⟨rfl, st97⟩
   ·intro vals ρ w101 X hd h0 st100
    have e102 : ρ 54 = (pt b87 3) := ((hd 0 rfl).2 54 rfl).trans (hd 0 rfl).1
    refine W1 (OpT.loadS ⟨b87, 3, none⟩ (.int .i64 (x82.rule)) ta3 e102 (st100.cellB (i := 0) rfl rfl) ?_)
    refine WL.nil ?_
    exact oneQ.mk ⟨rfl, st100⟩
   ·intro vals ρ w104 X hd h0 st103
    refine W1 (OpT.assign vn rfl ?_)
    refine WL.nil ?_
    exact oneQ.mk ⟨rfl, st103⟩
   ·intro vals ρ w106 X hd h0 st105
    have e107 : ρ 55 = (.int .i64 (x82.rule)) := ((hd 1 rfl).2 55 rfl).trans (hd 1 rfl).1
    refine W1 (OpT.assign (.int .i64 (x82.rule)) e107 ?_)
    refine WL.nil ?_
    exact oneQ.mk ⟨rfl, st105⟩
   ·intro vals ρ w109 X hd h0 st108
    refine W1 (OpT.assign (ii 90) rfl ?_)
    refine WL.nil ?_
    exact oneQ.mk ⟨rfl, st108⟩
   intro vals ρ112 w111 hv h0 st110
   replace st110 : St Z48 w49 w111 (Blk b87 35 [(.string x82.frm), (.string x82.to), (.int .i8 (x82.kind)), (.int .i64 (x82.rule))] :: Mi im46 σ.inn :: Mv mb30 mv31 :: L) := st110
   have e113 : ρ112 2 = vn := ((hv 2 rfl).2 2 rfl).trans (hv 2 rfl).1
   have e114 : ρ112 3 = (.int .i64 (x82.rule)) := ((hv 3 rfl).2 3 rfl).trans (hv 3 rfl).1
   have e115 : ρ112 4 = (ii 90) := ((hv 4 rfl).2 4 rfl).trans (hv 4 rfl).1
   clear hv h0
   refine Wnt ?_
   refine WC.ret <| blkQ_r <| blkQ_r <| thenQ_r <| loopQ_r <| blkQ_r <| thenQ_r <| jmpQ_r <| retQ.three vn (.int .i64 (x82.rule)) (ii 90) e113 e114 e115 ?_
   rw [find_at hx82 HB0 (by unfold blB iget; simp [h92, (Classical.not_not.1 h94), h96])] at hv
   cases hv
   refine ⟨_, rfl, .slice none 0 0, rfl, rfl, ?_, (hx34.back (hx41.back (hx50.back (St.rowNil 41 2 (St.selD 3 [] rfl rfl (by decide) st110)))))⟩
   simp [codeF, h92, h96]
  refine Wsr ?_
  refine W1 (OpT.ieq .i8 (x82.kind) (3) rfl rfl ?_)
  refine W1 (OpT.assign (.bool (decide (x82.kind = 3))) rfl ?_)
  refine Wnt ?_
  refine WC.condP (x82.kind = 3) rfl (fun h116 => ?_) (fun h116 => ?_)
  ·refine WC.seq ?_
   refine WC.draw 5 (fun jj vv => match jj with | 0 => vv = (pt b87 3) | 1 => vv = (.int .i64 (x82.rule)) | 2 => vv = vn | 3 => vv = (.int .i64 (x82.rule)) | 4 => vv = (ii 91) | _ => True) (fun _ _ => []) st91 fmix (by kernel_rfl) ((obS (obS (obS (obS (obS ob0 ?_) ?_) ?_) ?_) ?_)) ?_
   ·intro vals ρ w118 X hd h0 st117
    have e119 : ρ 10 = (pt b87 0) := (h0 10 rfl).trans rfl
    refine W1 (OpT.field 3 ⟨b87, 0, none⟩ ⟨b87, 3, none⟩ tf35_3 e119 rfl ?_)
    refine WL.nil ?_
    exact oneQ.mk ⟨rfl, st117⟩
   ·intro vals ρ w121 X hd h0 st120
    have e122 : ρ 58 = (pt b87 3) := ((hd 0 rfl).2 58 rfl).trans (hd 0 rfl).1
    refine W1 (OpT.loadS ⟨b87, 3, none⟩ (.int .i64 (x82.rule)) ta3 e122 (st120.cellB (i := 0) rfl rfl) ?_)
    refine WL.nil ?_
    exact oneQ.mk ⟨rfl, st120⟩
   ·intro vals ρ w124 X hd h0 st123
    refine W1 (OpT.assign vn rfl ?_)
    refine WL.nil ?_
    exact oneQ.mk ⟨rfl, st123⟩
   ·intro vals ρ w126 X hd h0 st125
    have e127 : ρ 59 = (.int .i64 (x82.rule)) := ((hd 1 rfl).2 59 rfl).trans (hd 1 rfl).1
    refine W1 (OpT.assign (.int .i64 (x82.rule)) e127 ?_)
    refine WL.nil ?_
    exact oneQ.mk ⟨rfl, st125⟩
   ·intro vals ρ w129 X hd h0 st128
    refine W1 (OpT.assign (ii 91) rfl ?_)
    refine WL.nil ?_
    exact oneQ.mk ⟨rfl, st128⟩
   intro vals ρ132 w131 hv h0 st130
   replace st130 : St Z48 w49 w131 (Blk b87 35 [(.string x82.frm), (.string x82.to), (.int .i8 (x82.kind)), (.int .i64 (x82.rule))] :: Mi im46 σ.inn :: Mv mb30 mv31 :: L) := st130
   have e133 : ρ132 2 = vn := ((hv 2 rfl).2 2 rfl).trans (hv 2 rfl).1
   have e134 : ρ132 3 = (.int .i64 (x82.rule)) := ((hv 3 rfl).2 3 rfl).trans (hv 3 rfl).1
   have e135 : ρ132 4 = (ii 91) := ((hv 4 rfl).2 4 rfl).trans (hv 4 rfl).1
   clear hv h0
   refine Wnt ?_
   refine WC.ret <| blkQ_r <| blkQ_r <| thenQ_r <| loopQ_r <| blkQ_r <| thenQ_r <| jmpQ_r <| retQ.three vn (.int .i64 (x82.rule)) (ii 91) e133 e134 e135 ?_
   rw [find_at hx82 HB0 (by unfold blB iget; simp [h92, (Classical.not_not.1 h94), h96, h116])] at hv
   cases hv
   refine ⟨_, rfl, .slice none 0 0, rfl, rfl, ?_, (hx34.back (hx41.back (hx50.back (St.rowNil 41 2 (St.selD 3 [] rfl rfl (by decide) st130)))))⟩
   simp [codeF, h92, h96, h116]
  refine WC.seq ?_
  refine WC.draw 5 (fun jj vv => match jj with | 0 => vv = (pt b87 3) | 1 => vv = (.int .i64 (x82.rule)) | 2 => vv = vn | 3 => vv = (.int .i64 (x82.rule)) | 4 => vv = (ii 92) | _ => True) (fun _ _ => []) st91 fmix (by kernel_rfl) ((obS (obS (obS (obS (obS ob0 ?_) ?_) ?_) ?_) ?_)) ?_
  ·intro vals ρ w137 X hd h0 st136
   have e138 : ρ 10 = (pt b87 0) := (h0 10 rfl).trans rfl
   refine W1 (OpT.field 3 ⟨b87, 0, none⟩ ⟨b87, 3, none⟩ tf35_3 e138 rfl ?_)
   refine WL.nil ?_
   exact oneQ.mk ⟨rfl, st136⟩
  ·intro vals ρ w140 X hd h0 st139
   have e141 : ρ 50 = (pt b87 3) := ((hd 0 rfl).2 50 rfl).trans (hd 0 rfl).1
   refine W1 (OpT.loadS ⟨b87, 3, none⟩ (.int .i64 (x82.rule)) ta3 e141 (st139.cellB (i := 0) rfl rfl) ?_)
   refine WL.nil ?_
   exact oneQ.mk ⟨rfl, st139⟩
  ·intro vals ρ w143 X hd h0 st142
   refine W1 (OpT.assign vn rfl ?_)
   refine WL.nil ?_
   exact oneQ.mk ⟨rfl, st142⟩
  ·intro vals ρ w145 X hd h0 st144
   have e146 : ρ 51 = (.int .i64 (x82.rule)) := ((hd 1 rfl).2 51 rfl).trans (hd 1 rfl).1
   refine W1 (OpT.assign (.int .i64 (x82.rule)) e146 ?_)
   refine WL.nil ?_
   exact oneQ.mk ⟨rfl, st144⟩
  ·intro vals ρ w148 X hd h0 st147
   refine W1 (OpT.assign (ii 92) rfl ?_)
   refine WL.nil ?_
   exact oneQ.mk ⟨rfl, st147⟩
  intro vals ρ151 w150 hv h0 st149
  replace st149 : St Z48 w49 w150 (Blk b87 35 [(.string x82.frm), (.string x82.to), (.int .i8 (x82.kind)), (.int .i64 (x82.rule))] :: Mi im46 σ.inn :: Mv mb30 mv31 :: L) := st149
  have e152 : ρ151 2 = vn := ((hv 2 rfl).2 2 rfl).trans (hv 2 rfl).1
  have e153 : ρ151 3 = (.int .i64 (x82.rule)) := ((hv 3 rfl).2 3 rfl).trans (hv 3 rfl).1
  have e154 : ρ151 4 = (ii 92) := ((hv 4 rfl).2 4 rfl).trans (hv 4 rfl).1
  clear hv h0
  refine Wnt ?_
  refine WC.ret <| blkQ_r <| blkQ_r <| thenQ_r <| loopQ_r <| blkQ_r <| thenQ_r <| jmpQ_r <| retQ.three vn (.int .i64 (x82.rule)) (ii 92) e152 e153 e154 ?_
  rw [find_at hx82 HB0 (by unfold blB iget; simp [h92, (Classical.not_not.1 h94), h96, h116])] at hv
  cases hv
  refine ⟨_, rfl, .slice none 0 0, rfl, rfl, ?_, (hx34.back (hx41.back (hx50.back (St.rowNil 41 2 (St.selD 3 [] rfl rfl (by decide) st149)))))⟩
  simp [codeF, h92, h96, h116]
 refine WC.exit ?_
 refine thenQ_x ?_
 refine loopQ_x ?_
 refine blkQ_hit ?_
 refine thenQ_n ?_
 refine Wsr ?_
 refine W1 (OpT.makeMap Value.string (Value.int .i32) st62 (fun b155 w156 st157 => ?_))
 refine W1 (OpT.assign (.map (some b155)) rfl ?_)
 refine Wns ?_
 refine W1 (OpT.assign (.bool false) rfl ?_)
 refine Wnt ?_
 refine WC.seq ?_
 refine WC.label ?_
 refine thenQ_n ?_
 have eT : (edgesF rs).take i = edgesF rs := List.take_of_length_le (by omega)
 have hno : (edgesF rs).find? (blB σ.inn) = none := find_none (by rw [List.take_length]; rw [eT] at HB0; exact HB0)
 rw [hno] at hv
 obtain ⟨fin, hfin, hv2⟩ := Option.map_eq_some_iff.1 hv
 refine WC.again (fun m ρ wz => ∃ (nl : Li), lvRun m (edgesF rs) nl = some fin ∧ ρ 5 = v29 ∧ ρ 6 = (.map (some mb30)) ∧ ρ 11 = (.map (some b155)) ∧ St Z48 w49 wz (Mp Value.string (Value.int .i32) b155 nl :: Mv mb30 mv31 :: L)) ⟨[], by first | exact hfin | (rw [hK]; exact hfin), hs66, hs67, rfl, (St.selD 3 [0, 2] rfl rfl (by decide) st157)⟩ ?_
 rintro m158 ρ159 w160 ⟨nl, hrun, hs162, hs163, hs164, st161⟩ J hJ
 obtain ⟨k0, q0, rfl, hall, hnx⟩ := lvRun_inv hrun
 refine Wsr ?_
 refine W1 (OpT.assign (.bool false) rfl ?_)
 refine Wnt ?_
 refine WC.seq ?_
 refine Wsr ?_
 refine W1 (OpT.move v29 hs162 ?_)
 refine W1 (OpT.lenR rfl tu26 hL57 rfl ?_)
 refine W1 (OpT.move (ii 0) rfl ?_)
 refine Wnt ?_
 refine WC.block ?_
 refine WC.loop (fun m ρ wz => ∃ (j : Nat), ∃ (nl2 : Li), ∃ (rz : Bool), m = (edgesF rs).length - j ∧ j ≤ (edgesF rs).length ∧ ((edgesF rs).take j).foldlM lvStep (nl, false) = some (nl2, rz) ∧ ρ 12 = (.bool rz) ∧ ρ 64 = (ni j) ∧ ρ 5 = v29 ∧ ρ 6 = (.map (some mb30)) ∧ ρ 11 = (.map (some b155)) ∧ ρ 62 = v29 ∧ ρ 63 = (.int .i64 ((((edgesF rs).length : Nat) : Int))) ∧ St Z48 w49 wz (Mp Value.string (Value.int .i32) b155 nl2 :: Mv mb30 mv31 :: L)) _ ⟨0, nl, false, rfl, by omega, rfl, rfl, rfl, hs162, hs163, hs164, rfl, rfl, st161⟩ ?_
 rintro m165 ρ166 w167 ⟨j, nl2, rz, hm177, hp169, HF, hs171, hs170, hs172, hs173, hs174, hs175, hs176, st168⟩
 have hal := Rl.sl_le hL57
 refine Wsr ?_
 refine W1 (OpT.ilt .i64 (((j : Nat) : Int)) ((((edgesF rs).length : Nat) : Int)) hs170 hs176 ?_)
 refine Wnt ?_
 refine WC.seq ?_
 refine WC.condP (((j : Nat) : Int) < (((edgesF rs).length : Nat) : Int)) rfl (fun h178 => ?_) (fun h178 => ?_)
 ·refine WC.skip ?_
  refine thenQ_n ?_
  refine WC.seq ?_
  refine WC.block ?_
  refine Wsr ?_
  obtain ⟨x179, hx179⟩ : ∃ x, (edgesF rs)[j]? = some x := ⟨_, List.getElem?_eq_getElem (by omega)⟩
  refine W1 (OpT.idxX tu26 ts35 hL57 hs175 .i64 (j) hs170 hx179 (fun ad180 cs181 hr182 hR183 => ?_))
  have hR183c := hR183
  obtain rfl := hR183
  refine W1 (OpT.loadA ad180 4 [(.string x179.frm), (.string x179.to), (.int .i8 (x179.kind)), (.int .i64 (x179.rule))] ta35 ts35 rfl ((hr182.at st168).part 0 4) rfl ?_)
  refine W1 (OpT.alloc st168 (.agg #[ve, ve, (.int .i8 (0)), (ii 0)]) [ve, ve, (.int .i8 (0)), (ii 0)] tz35 rfl (fun b184 w185 st186 => ?_))
  refine WL.stepN (OpT.storeA st186 0 4 [(.string x179.frm), (.string x179.to), (.int .i8 (x179.kind)), (.int .i64 (x179.rule))] rfl ts35 rfl rfl rfl rfl rfl (fun w187 st188 => ?_))
  refine Wnt ?_
  refine WC.seq ?_
  obtain ⟨q1, hq1, hq2⟩ := fold_at hall HF hx179
  obtain ⟨hb0, hb1, hq3⟩ := lvStep_inv hq1
  unfold iget at hb0 hb1 hq3
  simp only at hb0 hb1 hq3
  refine WC.region ?_
  refine W1 (OpT.move (.map (some b155)) hs174 ?_)
  refine W1 (OpT.field 1 ⟨b184, 0, none⟩ ⟨b184, 1, none⟩ tf35_1 rfl rfl ?_)
  refine W1 (OpT.loadS ⟨b184, 1, none⟩ (.string x179.to) ta9 rfl (st188.cellB (i := 0) rfl rfl) ?_)
  refine W1 (OpT.lookupI st188 1 rfl ko9 tu83 tz21 (x179.to) rfl rfl ?_)
  refine W1 (OpT.assign (.int .i32 (((mget nl2 x179.to).getD 0))) rfl ?_)
  refine Wnt ?_
  refine WC.seq ?_
  refine Wsr ?_
  refine W1 (OpT.field 2 ⟨b184, 0, none⟩ ⟨b184, 2, none⟩ tf35_2 rfl rfl ?_)
  refine W1 (OpT.loadS ⟨b184, 2, none⟩ (.int .i8 (x179.kind)) ta33 rfl (st188.cellB (i := 0) rfl rfl) ?_)
  refine W1 (OpT.ine .i8 (x179.kind) (1) rfl rfl ?_)
  refine Wnt ?_
  refine WC.condP (x179.kind ≠ 1) rfl (fun h189 => ?_) (fun h189 => ?_)
  ·refine WC.region ?_
   refine W1 (OpT.move (.int .i32 (((mget nl2 x179.to).getD 0))) rfl ?_)
   refine W1 (OpT.iadd .i32 (((mget nl2 x179.to).getD 0)) (1) (((mget nl2 x179.to).getD 0) + 1) rfl rfl (wrapI_i32 (by omega) (by omega)) ?_)
   refine W1 (OpT.assign (.int .i32 (((mget nl2 x179.to).getD 0) + 1)) rfl ?_)
   refine Wns ?_
   refine W1 (OpT.move (.map (some b155)) hs174 ?_)
   refine W1 (OpT.field 0 ⟨b184, 0, none⟩ ⟨b184, 0, none⟩ tf35_0 rfl rfl ?_)
   refine W1 (OpT.loadS ⟨b184, 0, none⟩ (.string x179.frm) ta9 rfl (st188.cellB (i := 0) rfl rfl) ?_)
   refine W1 (OpT.lookupI st188 1 rfl ko9 tu83 tz21 (x179.frm) rfl rfl ?_)
   refine W1 (OpT.move (.int .i32 (((mget nl2 x179.to).getD 0) + 1)) rfl ?_)
   refine W1 (OpT.ilt .i32 (((mget nl2 x179.frm).getD 0)) (((mget nl2 x179.to).getD 0) + 1) rfl rfl ?_)
   refine Wnt ?_
   refine WC.condP (((mget nl2 x179.frm).getD 0) < (((mget nl2 x179.to).getD 0) + 1)) rfl (fun h190 => ?_) (fun h190 => ?_)
   ·refine WC.region ?_
    refine W1 (OpT.move (.map (some b155)) hs174 ?_)
    refine W1 (OpT.field 0 ⟨b184, 0, none⟩ ⟨b184, 0, none⟩ tf35_0 rfl rfl ?_)
    refine W1 (OpT.loadS ⟨b184, 0, none⟩ (.string x179.frm) ta9 rfl (st188.cellB (i := 0) rfl rfl) ?_)
    refine W1 (OpT.move (.int .i32 (((mget nl2 x179.to).getD 0) + 1)) rfl ?_)
    refine WL.stepN (OpT.mapSet st188 1 rfl ko9 tu83 (x179.frm) (((mget nl2 x179.to).getD 0) + 1) rfl rfl rfl (fun w191 st192 => ?_))
    refine W1 (OpT.assign (.bool true) rfl ?_)
    refine WL.nil ?_
    refine blkQ_n ?_
    refine thenQ_n ?_
    refine WC.region ?_
    refine W1 (OpT.iadd .i64 (((j : Nat) : Int)) (1) (((j + 1 : Nat) : Int)) hs170 rfl (wadd (a := j) (b := 1) (by omega)) ?_)
    refine W1 (OpT.move (ni (j + 1)) rfl ?_)
    refine WL.nil ?_
    have e193 : q1 = ((mset nl2 x179.frm (((mget nl2 x179.to).getD 0) + 1)), true) := by
      simp [h178, h189, h190] at hq3
      exact hq3.symm
    have st194 : St Z48 w49 w191 (Mp Value.string (Value.int .i32) b155 (mset nl2 x179.frm (((mget nl2 x179.to).getD 0) + 1)) :: Mv mb30 mv31 :: L) := St.selT [Blk b184 35 [(.string x179.frm), (.string x179.to), (.int .i8 (x179.kind)), (.int .i64 (x179.rule))], Mp Value.string (Value.int .i32) b155 (mset nl2 x179.frm (((mget nl2 x179.to).getD 0) + 1)), Mv mb30 mv31] [1, 2] rfl (by decide) st192
    exact loopQ_n _ (by omega) ⟨j + 1, (mset nl2 x179.frm (((mget nl2 x179.to).getD 0) + 1)), true, rfl, by omega, hq2.trans (congrArg some e193), rfl, rfl, hs172, hs173, hs174, hs175, hs176, st194⟩
   refine WC.skip ?_
   refine blkQ_n ?_
   refine thenQ_n ?_
   refine WC.region ?_
   refine W1 (OpT.iadd .i64 (((j : Nat) : Int)) (1) (((j + 1 : Nat) : Int)) hs170 rfl (wadd (a := j) (b := 1) (by omega)) ?_)
   refine W1 (OpT.move (ni (j + 1)) rfl ?_)
   refine WL.nil ?_
   have e195 : q1 = (nl2, rz) := by
     simp [h178, h189, h190] at hq3
     exact hq3.symm
   have st196 : St Z48 w49 w187 (Mp Value.string (Value.int .i32) b155 nl2 :: Mv mb30 mv31 :: L) := St.selT [Blk b184 35 [(.string x179.frm), (.string x179.to), (.int .i8 (x179.kind)), (.int .i64 (x179.rule))], Mp Value.string (Value.int .i32) b155 nl2, Mv mb30 mv31] [1, 2] rfl (by decide) st188
   exact loopQ_n _ (by omega) ⟨j + 1, nl2, rz, rfl, by omega, hq2.trans (congrArg some e195), hs171, rfl, hs172, hs173, hs174, hs175, hs176, st196⟩
  refine WC.skip ?_
  refine thenQ_n ?_
  refine Wsr ?_
  refine W1 (OpT.move (.map (some b155)) hs174 ?_)
  refine W1 (OpT.field 0 ⟨b184, 0, none⟩ ⟨b184, 0, none⟩ tf35_0 rfl rfl ?_)
  refine W1 (OpT.loadS ⟨b184, 0, none⟩ (.string x179.frm) ta9 rfl (st188.cellB (i := 0) rfl rfl) ?_)
  refine W1 (OpT.lookupI st188 1 rfl ko9 tu83 tz21 (x179.frm) rfl rfl ?_)
  refine W1 (OpT.move (.int .i32 (((mget nl2 x179.to).getD 0))) rfl ?_)
  refine W1 (OpT.ilt .i32 (((mget nl2 x179.frm).getD 0)) (((mget nl2 x179.to).getD 0)) rfl rfl ?_)
  refine Wnt ?_
  refine WC.condP (((mget nl2 x179.frm).getD 0) < ((mget nl2 x179.to).getD 0)) rfl (fun h197 => ?_) (fun h197 => ?_)
  ·refine WC.region ?_
   refine W1 (OpT.move (.map (some b155)) hs174 ?_)
   refine W1 (OpT.field 0 ⟨b184, 0, none⟩ ⟨b184, 0, none⟩ tf35_0 rfl rfl ?_)
   refine W1 (OpT.loadS ⟨b184, 0, none⟩ (.string x179.frm) ta9 rfl (st188.cellB (i := 0) rfl rfl) ?_)
   refine W1 (OpT.move (.int .i32 (((mget nl2 x179.to).getD 0))) rfl ?_)
   refine WL.stepN (OpT.mapSet st188 1 rfl ko9 tu83 (x179.frm) (((mget nl2 x179.to).getD 0)) rfl rfl rfl (fun w198 st199 => ?_))
   refine W1 (OpT.assign (.bool true) rfl ?_)
   refine WL.nil ?_
   refine blkQ_n ?_
   refine thenQ_n ?_
   refine WC.region ?_
   refine W1 (OpT.iadd .i64 (((j : Nat) : Int)) (1) (((j + 1 : Nat) : Int)) hs170 rfl (wadd (a := j) (b := 1) (by omega)) ?_)
   refine W1 (OpT.move (ni (j + 1)) rfl ?_)
   refine WL.nil ?_
   have e200 : q1 = ((mset nl2 x179.frm ((mget nl2 x179.to).getD 0)), true) := by
     simp [h178, (Classical.not_not.1 h189), h197] at hq3
     exact hq3.symm
   have st201 : St Z48 w49 w198 (Mp Value.string (Value.int .i32) b155 (mset nl2 x179.frm ((mget nl2 x179.to).getD 0)) :: Mv mb30 mv31 :: L) := St.selT [Blk b184 35 [(.string x179.frm), (.string x179.to), (.int .i8 (x179.kind)), (.int .i64 (x179.rule))], Mp Value.string (Value.int .i32) b155 (mset nl2 x179.frm ((mget nl2 x179.to).getD 0)), Mv mb30 mv31] [1, 2] rfl (by decide) st199
   exact loopQ_n _ (by omega) ⟨j + 1, (mset nl2 x179.frm ((mget nl2 x179.to).getD 0)), true, rfl, by omega, hq2.trans (congrArg some e200), rfl, rfl, hs172, hs173, hs174, hs175, hs176, st201⟩
  refine WC.skip ?_
  refine blkQ_n ?_
  refine thenQ_n ?_
  refine WC.region ?_
  refine W1 (OpT.iadd .i64 (((j : Nat) : Int)) (1) (((j + 1 : Nat) : Int)) hs170 rfl (wadd (a := j) (b := 1) (by omega)) ?_)
  refine W1 (OpT.move (ni (j + 1)) rfl ?_)
  refine WL.nil ?_
  have e202 : q1 = (nl2, rz) := by
    simp [h178, (Classical.not_not.1 h189), h197] at hq3
    exact hq3.symm
  have st203 : St Z48 w49 w187 (Mp Value.string (Value.int .i32) b155 nl2 :: Mv mb30 mv31 :: L) := St.selT [Blk b184 35 [(.string x179.frm), (.string x179.to), (.int .i8 (x179.kind)), (.int .i64 (x179.rule))], Mp Value.string (Value.int .i32) b155 nl2, Mv mb30 mv31] [1, 2] rfl (by decide) st188
  exact loopQ_n _ (by omega) ⟨j + 1, nl2, rz, rfl, by omega, hq2.trans (congrArg some e202), hs171, rfl, hs172, hs173, hs174, hs175, hs176, st203⟩
 refine WC.exit ?_
 refine thenQ_x ?_
 refine loopQ_x ?_
 refine blkQ_hit ?_
 refine thenQ_n ?_
 refine WC.seq ?_
 refine WC.seq ?_
 have eT : (edgesF rs).take j = edgesF rs := List.take_of_length_le (by omega)
 rw [eT, hall] at HF
 have eQ := Option.some.inj HF
 refine WC.region ?_
 refine W1 (OpT.move (.bool rz) hs171 ?_)
 refine Wnt ?_
 refine WC.cond (rz) rfl (fun h204 => ?_) (fun h204 => ?_)
 ·refine WC.goto ?_
  refine thenQ_g ?_
  refine jmpQ_g (hJ _ _ k0 (by omega) ⟨nl2, ?_, hs172, hs173, hs174, st168⟩)
  rw [eQ, if_pos h204] at hnx; exact hnx
 refine WC.skip ?_
 refine thenQ_n ?_
 refine WC.seq ?_
 have efin : nl2 = fin := by rw [eQ, if_neg (by rw [h204]; exact Bool.false_ne_true)] at hnx; exact Option.some.inj hnx
 refine WC.region ?_
 refine W1 (OpT.assign vn rfl ?_)
 refine Wnt ?_
 refine WC.seq ?_
 refine Wsr ?_
 refine W1 (OpT.move (.map (some mb30)) hs173 ?_)
 refine W1 (OpT.callS cal28 [] [] [(.map (some mb30))] rfl (ca1 rfl) (namesG_spec hg55 ok (St.selD 2 [1, 0] rfl rfl (by decide) st168)) ?_)
 rintro v208 w209 ⟨Z205, hx206, hn207, st210⟩
 have hg211 := hg55.ext hx206
 refine W1 (OpT.lenR rfl tu37 hn207 rfl ?_)
 refine W1 (OpT.move (ii 0) rfl ?_)
 refine Wnt ?_
 refine WC.block ?_
 have st212 : St Z205 w209 w209 (Row 41 2 vn 0 [] :: Mv mb30 mv31 :: Mp Value.string (Value.int .i32) b155 nl2 :: L) := st210.rowNil 41 2
 have st213 : St Z205 w209 w209 (Row 41 2 vn 0 [] :: Mp Value.string (Value.int .i32) b155 nl2 :: L) := St.selT [Row 41 2 vn 0 [], Mv mb30 mv31, Mp Value.string (Value.int .i32) b155 nl2] [0, 2] rfl (by decide) st212
 refine WC.loop (fun m ρ wz => ∃ (k : Nat), ∃ (lv : Value), m = (namesG (drawF rs)).length - k ∧ k ≤ (namesG (drawF rs)).length ∧ ρ 16 = lv ∧ ρ 92 = (ni k) ∧ ρ 11 = (.map (some b155)) ∧ ρ 90 = v208 ∧ ρ 91 = (.int .i64 ((((namesG (drawF rs)).length : Nat) : Int))) ∧ St Z205 w209 wz (Row 41 2 lv (lvsOf nl2 ((namesG (drawF rs)).take k)).length ((lvsOf nl2 ((namesG (drawF rs)).take k)).flatMap lcs) :: Mp Value.string (Value.int .i32) b155 nl2 :: L)) _ ⟨0, vn, rfl, by omega, rfl, rfl, hs174, rfl, rfl, st213⟩ ?_
 rintro m214 ρ215 w216 ⟨k, lv, hm224, hp218, hs220, hs219, hs221, hs222, hs223, st217⟩
 have hal := Rl.sl_le hn207
 have hln : (namesG (drawF rs)).length < 2097152 := by unfold namesG; rw [isort_len, List.length_map]; exact ok.len
 have hlk : (lvsOf nl2 ((namesG (drawF rs)).take k)).length = k := by unfold lvsOf; rw [List.length_map, List.length_take]; omega
 have olv := st217.rowOne (i := 0) rfl
 have clv := st217.rowCel (i := 0) rfl
 refine Wsr ?_
 refine W1 (OpT.ilt .i64 (((k : Nat) : Int)) ((((namesG (drawF rs)).length : Nat) : Int)) hs219 hs223 ?_)
 refine Wnt ?_
 refine WC.seq ?_
 refine WC.condP (((k : Nat) : Int) < (((namesG (drawF rs)).length : Nat) : Int)) rfl (fun h225 => ?_) (fun h225 => ?_)
 ·refine WC.skip ?_
  refine thenQ_n ?_
  refine WC.seq ?_
  refine WC.block ?_
  refine Wsr ?_
  obtain ⟨x226, hx226⟩ : ∃ x, (namesG (drawF rs))[k]? = some x := ⟨_, List.getElem?_eq_getElem (by omega)⟩
  refine W1 (OpT.idxX tu37 ts9 hn207 hs222 .i64 (k) hs219 hx226 (fun ad227 cs228 hr229 hR230 => ?_))
  have hR230c := hR230
  obtain rfl := hR230
  refine W1 (OpT.loadS ad227 (.string x226) ta9 rfl (hr229.cell st217 (j := 0) rfl) ?_)
  refine W1 (OpT.assign (.string x226) rfl ?_)
  refine Wnr ?_
  refine W1 (OpT.move lv hs220 ?_)
  refine W1 (OpT.move (.string x226) rfl ?_)
  refine W1 (OpT.move (.map (some b155)) hs221 ?_)
  refine W1 (OpT.move (.string x226) rfl ?_)
  refine W1 (OpT.lookupI st217 1 rfl ko9 tu83 tz21 (x226) rfl rfl ?_)
  refine W1 (OpT.build [(0, (.string x226)), (1, (.int .i32 (((mget nl2 x226).getD 0))))] [(.string x226), (.int .i32 (((mget nl2 x226).getD 0)))] tz41 tp41 (mp2 rfl rfl) rfl ?_)
  refine W1 (OpT.buildSlice st217 [(0, (.agg #[(.string x226), (.int .i32 (((mget nl2 x226).getD 0)))]))] [(.string x226), (.int .i32 (((mget nl2 x226).getD 0)))] tu28 ts41 tz41 (mp1 rfl) (by kernel_rfl) (by decide) (fun b231 w232 st233 => ?_))
  have st234 : St Z205 w209 w232 (Blk b231 41 [(.string x226), (.int .i32 (((mget nl2 x226).getD 0)))] :: Row 41 2 lv (lvsOf nl2 ((namesG (drawF rs)).take k)).length ((lvsOf nl2 ((namesG (drawF rs)).take k)).flatMap lcs) :: Mp Value.string (Value.int .i32) b155 nl2 :: L) := St.selT [Blk b231 41 [(.string x226), (.int .i32 (((mget nl2 x226).getD 0)))], Row 41 2 lv (lvsOf nl2 ((namesG (drawF rs)).take k)).length ((lvsOf nl2 ((namesG (drawF rs)).take k)).flatMap lcs), Mp Value.string (Value.int .i32) b155 nl2] [0, 1, 2] rfl (by decide) st233
  refine W1 (OpT.append st234 1 tu28 ts41 tz41 rfl tb41 (by decide) rfl rfl rfl rfl (by omega) (by omega) (fun v235 w236 st237 hn238 => ?_))
  have o239 := st237.rowOne (i := 0) rfl
  have c240 := st237.rowCel (i := 0) rfl
  refine W1 (OpT.assign v235 rfl ?_)
  refine WL.nil ?_
  refine blkQ_n ?_
  refine thenQ_n ?_
  refine WC.region ?_
  refine W1 (OpT.iadd .i64 (((k : Nat) : Int)) (1) (((k + 1 : Nat) : Int)) hs219 rfl (wadd (a := k) (b := 1) (by omega)) ?_)
  refine W1 (OpT.move (ni (k + 1)) rfl ?_)
  refine WL.nil ?_
  have st241 : St Z205 w209 w236 (Row 41 2 v235 (lvsOf nl2 ((namesG (drawF rs)).take (k + 1))).length ((lvsOf nl2 ((namesG (drawF rs)).take (k + 1))).flatMap lcs) :: Mp Value.string (Value.int .i32) b155 nl2 :: L) := by
    rw [lvs_step hx226]
    simp only [List.flatMap_append, List.length_append, List.length_cons, List.length_nil, List.flatMap_cons, List.flatMap_nil, List.append_nil]
    exact st237
  exact loopQ_n _ (by omega) ⟨k + 1, v235, rfl, by omega, rfl, rfl, hs221, hs222, hs223, st241⟩
 refine WC.exit ?_
 refine thenQ_x ?_
 refine loopQ_x ?_
 refine blkQ_hit ?_
 refine thenQ_n ?_
 refine Wsr ?_
 refine W1 (OpT.move lv hs220 ?_)
 refine W1 (OpT.assign lv rfl ?_)
 refine W1 (OpT.assign (ii 0) rfl ?_)
 refine W1 (OpT.assign (ii 0) rfl ?_)
 refine Wnt ?_
 refine WC.ret <| jmpQ_r <| retQ.three lv (ii 0) (ii 0) rfl rfl rfl ?_
 have eT3 : (namesG (drawF rs)).take k = namesG (drawF rs) := List.take_of_length_le (by omega)
 rw [eT3] at st217
 subst efin
 cases hv2
 exact ⟨_, rfl, lv, olv, clv, rfl, (hx34.back (hx41.back (hx50.back (hx206.back (St.selD 2 [0] rfl rfl (by decide) st217)))))⟩

end Go.Ped
set_option linter.unusedVariables false
set_option maxRecDepth 20000
namespace Go.Ped
open Go Go.Eng Go.RowKit Go.Proofs

def lwT (inn : Li) (i : Nat) (m : List (Int × Unit)) (t : ByteArray) : List (Int × Unit) := if iget inn t ≠ (i : Int) then mset m (iget inn t) () else m
def lwS (g : Gm) (inn : Li) (i : Nat) (m : List (Int × Unit)) (s : ByteArray) : List (Int × Unit) := (gSuc g s).foldl (lwT inn i) m
def lwF (g : Gm) (inn : Li) (i : Nat) (part : List ByteArray) : List (Int × Unit) := part.foldl (lwS g inn i) []
def lwAt (g : Gm) (σ : TS) (i : Nat) : List (Int × Unit) := lwF g σ.inn i ((σ.out[i]?).getD [])
def waitP (W : Nat → Nat) (n i : Nat) : List Int := (List.range n).map fun j => if j < i then ((W j : Nat) : Int) else 0
def abvP (M : Nat → List (Int × Unit)) (n i : Nat) : List (List Int) := (List.range n).map fun k : Nat => ((List.range i).filter fun j => decide ((k : Int) ∈ (M j).map Prod.fst)).map fun j : Nat => (j : Int)
def abvQ (M : Nat → List (Int × Unit)) (n i : Nat) (left : List (Int × Unit)) : List (List Int) :=
  (List.range n).map fun k : Nat => (((List.range i).filter fun j => decide ((k : Int) ∈ (M j).map Prod.fst)).map fun j : Nat => (j : Int)) ++ (if (k : Int) ∈ (M i).map Prod.fst ∧ ¬ (k : Int) ∈ left.map Prod.fst then [(i : Int)] else [])
theorem waitP_zero (W : Nat → Nat) (n : Nat) : waitP W n 0 = List.replicate n 0 := by
  unfold waitP
  apply List.ext_getElem
  · simp
  · intro i h1 h2; simp
theorem waitP_len (W : Nat → Nat) (n i : Nat) : (waitP W n i).length = n := by simp [waitP]
theorem waitP_set {W : Nat → Nat} {n i : Nat} (hi : i < n) : (waitP W n i).set i ((W i : Nat) : Int) = waitP W n (i + 1) := by
  unfold waitP
  apply List.ext_getElem
  · simp
  · intro j h1 h2
    simp at h2
    rw [List.getElem_set]
    by_cases h : i = j
    · subst h; simp
    · rw [if_neg h]
      simp only [List.getElem_map, List.getElem_range]
      by_cases hj : j < i
      · rw [if_pos hj, if_pos (by omega)]
      · rw [if_neg hj, if_neg (by omega)]
theorem abvP_zero (M : Nat → List (Int × Unit)) (n : Nat) : abvP M n 0 = List.replicate n [] := by
  unfold abvP
  apply List.ext_getElem
  · simp
  · intro i h1 h2; simp
theorem abvP_len (M : Nat → List (Int × Unit)) (n i : Nat) : (abvP M n i).length = n := by simp [abvP]
theorem abvQ_len (M : Nat → List (Int × Unit)) (n i : Nat) (l : List (Int × Unit)) : (abvQ M n i l).length = n := by simp [abvQ]
theorem abvQ_full (M : Nat → List (Int × Unit)) (n i : Nat) : abvQ M n i (M i) = abvP M n i := by
  unfold abvQ abvP
  refine List.map_congr_left (fun k _ => ?_)
  rw [if_neg (fun h => h.2 h.1), List.append_nil]
theorem abvQ_nil (M : Nat → List (Int × Unit)) (n i : Nat) : abvQ M n i [] = abvP M n (i + 1) := by
  unfold abvQ abvP
  refine List.map_congr_left (fun k _ => ?_)
  rw [List.range_succ, List.filter_append, List.map_append]
  congr 1
  by_cases h : (k : Int) ∈ (M i).map Prod.fst
  · rw [if_pos ⟨h, by simp⟩, List.filter_cons_of_pos (by simpa using h)]; rfl
  · rw [if_neg (fun g => h g.1), List.filter_cons_of_neg (by simpa using h)]; rfl
theorem abvQ_le {M : Nat → List (Int × Unit)} {n i : Nat} {l : List (Int × Unit)} {x : List Int} (h : x ∈ abvQ M n i l) : x.length ≤ i + 1 := by
  unfold abvQ at h
  obtain ⟨k, _, rfl⟩ := List.mem_map.1 h
  have h1 := List.length_filter_le (fun j => decide ((k : Int) ∈ (M j).map Prod.fst)) (List.range i)
  rw [List.length_range] at h1
  rw [List.length_append, List.length_map]
  split <;> simp <;> omega
theorem abvQ_at {M : Nat → List (Int × Unit)} {n i k : Nat} {left : List (Int × Unit)} (hk : k < n) : (abvQ M n i left)[k]? = some ((((List.range i).filter fun j => decide ((k : Int) ∈ (M j).map Prod.fst)).map fun j : Nat => (j : Int)) ++ (if (k : Int) ∈ (M i).map Prod.fst ∧ ¬ (k : Int) ∈ left.map Prod.fst then [(i : Int)] else [])) := by
  unfold abvQ
  rw [List.getElem?_map, List.getElem?_range hk]
  rfl
theorem abvQ_set {M : Nat → List (Int × Unit)} {n i k : Nat} {A B : List (Int × Unit)} {u : Unit} {xs : List Int} (hn : ((A ++ ((k : Int), u) :: B).map Prod.fst).Nodup) (hm : (k : Int) ∈ (M i).map Prod.fst) (hx : (abvQ M n i (A ++ ((k : Int), u) :: B))[k]? = some xs) :
    (abvQ M n i (A ++ ((k : Int), u) :: B)).set k (xs ++ [(i : Int)]) = abvQ M n i (A ++ B) := by
  have hn2 : ¬ (k : Int) ∈ (A ++ B).map Prod.fst := by
    simp only [List.map_append, List.map_cons, List.nodup_append, List.nodup_cons, List.mem_append] at hn ⊢
    rintro (h | h)
    · exact hn.2.2 _ h _ (by simp) rfl
    · exact hn.2.1.1 h
  have hk : k < n := by
    have := (List.getElem?_eq_some_iff.1 hx).1
    rwa [abvQ_len] at this
  apply List.ext_getElem?
  intro j
  rw [List.getElem?_set, abvQ_len]
  by_cases h : k = j
  · subst h
    rw [if_pos rfl, if_pos hk, abvQ_at hk, if_pos ⟨hm, hn2⟩]
    rw [abvQ_at hk, if_neg (fun g => g.2 (by simp)), List.append_nil] at hx
    rw [Option.some.inj hx]
  · rw [if_neg h]
    by_cases hj : j < n
    · rw [abvQ_at hj, abvQ_at hj]
      have hjk : ¬ (j : Int) = (k : Int) := by omega
      have hm2 : (j : Int) ∈ (A ++ ((k : Int), u) :: B).map Prod.fst ↔ (j : Int) ∈ (A ++ B).map Prod.fst := by
        simp only [List.map_append, List.map_cons, List.mem_append, List.mem_cons]
        constructor
        · rintro (h | h | h)
          · exact .inl h
          · exact absurd h hjk
          · exact .inr h
        · rintro (h | h)
          · exact .inl h
          · exact .inr (.inr h)
      by_cases h5 : (j : Int) ∈ (A ++ B).map Prod.fst
      · rw [if_neg (fun g => g.2 (hm2.2 h5)), if_neg (fun g => g.2 h5)]
      · by_cases h6 : (j : Int) ∈ (M i).map Prod.fst
        · rw [if_pos ⟨h6, fun g => h5 (hm2.1 g)⟩, if_pos ⟨h6, h5⟩]
        · rw [if_neg (fun g => h6 g.1), if_neg (fun g => h6 g.1)]
    · rw [List.getElem?_eq_none (by rw [abvQ_len]; omega), List.getElem?_eq_none (by rw [abvQ_len]; omega)]
theorem mset_nodup {κ α : Type} [DecidableEq κ] {m : List (κ × α)} {k : κ} {v : α} (h : (m.map Prod.fst).Nodup) : ((mset m k v).map Prod.fst).Nodup := by
  cases hs : (mget m k).isSome with
  | false =>
    rw [mset_new hs]
    rw [mget_some_mem, decide_eq_false_iff_not] at hs
    rw [List.map_append, List.nodup_append]
    refine ⟨h, by simp, ?_⟩
    intro a ha b hb e
    simp at hb
    exact hs (hb ▸ e ▸ ha)
  | true =>
    have : (mset m k v).map Prod.fst = m.map Prod.fst := by
      clear h
      induction m with
      | nil => cases hs
      | cons p m ih =>
        rw [mset_cons]
        by_cases hp : p.1 = k
        · rw [if_pos hp]; simp [hp]
        · rw [mget_cons, if_neg hp] at hs
          rw [if_neg hp, List.map_cons, List.map_cons, ih hs]
    rw [this]; exact h
theorem lwT_nodup (inn : Li) (i : Nat) : ∀ (ts : List ByteArray) (m : List (Int × Unit)), (m.map Prod.fst).Nodup → ((ts.foldl (lwT inn i) m).map Prod.fst).Nodup
  | [], _, h => h
  | t :: ts, m, h => lwT_nodup inn i ts _ (by unfold lwT; split; exact mset_nodup h; exact h)
theorem lwF_nodup (g : Gm) (inn : Li) (i : Nat) (part : List ByteArray) : ((lwF g inn i part).map Prod.fst).Nodup := by
  have : ∀ (ss : List ByteArray) (m : List (Int × Unit)), (m.map Prod.fst).Nodup → ((ss.foldl (lwS g inn i) m).map Prod.fst).Nodup := by
    intro ss
    induction ss with
    | nil => intro m h; exact h
    | cons s ss ih => intro m h; exact ih _ (lwT_nodup inn i _ _ h)
  exact this part [] List.Pairwise.nil
def hdS (l : List ByteArray) : ByteArray := (l[0]?).getD ⟨#[]⟩
def pickS (ps : List (List ByteArray)) (ws : List Int) (nx : Int) (i : Nat) : Int :=
  if (ws[i]?).getD 1 = 0 ∧ (nx < 0 ∨ Op.bytesLess (hdS ((ps[i]?).getD [])).toList (hdS ((ps[nx.toNat]?).getD [])).toList = true) then (i : Int) else nx
def pickP (ps : List (List ByteArray)) (ws : List Int) (i : Nat) : Int := (List.range i).foldl (pickS ps ws) (-1)
def decS (ws : List Int) (j : Int) : Option (List Int) :=
  if 0 ≤ j ∧ j.toNat < ws.length ∧ -1000000000 < (ws[j.toNat]?).getD 0 ∧ (ws[j.toNat]?).getD 0 < 1000000000 then some (ws.set j.toNat ((ws[j.toNat]?).getD 0 - 1)) else none
structure PW where
  w : List Int
  o : List (List ByteArray)
def selS (ps : List (List ByteArray)) (abv : List (List Int)) (q : PW) (_ : Nat) : Option PW :=
  if 0 ≤ pickP ps q.w q.w.length then (((abv[(pickP ps q.w q.w.length).toNat]?).getD []).foldlM decS (q.w.set (pickP ps q.w q.w.length).toNat (-1))).map fun ws => ⟨ws, q.o ++ [(ps[(pickP ps q.w q.w.length).toNat]?).getD []]⟩ else none
def okW (g : Gm) (σ : TS) : Bool := σ.out.all (fun p => decide (p ≠ [])) && (List.range σ.out.length).all fun i => (lwAt g σ i).all fun p => decide (0 ≤ p.1) && decide (p.1 < (σ.out.length : Int))
def partsO (g : Gm) : Option (List (List ByteArray)) := (partsF g).bind fun σ => if okW g σ = true then ((List.range σ.out.length).foldlM (selS σ.out (abvP (lwAt g σ) σ.out.length σ.out.length)) ⟨waitP (fun i => (lwAt g σ i).length) σ.out.length σ.out.length, []⟩).map fun q => q.o else none
theorem partsO_inv {g : Gm} {o : List (List ByteArray)} (h : partsO g = some o) : ∃ σ, partsF g = some σ ∧ (∀ p ∈ σ.out, p ≠ []) ∧ (∀ i, i < σ.out.length → ∀ p ∈ lwAt g σ i, 0 ≤ p.1 ∧ p.1 < (σ.out.length : Int)) ∧
    ∃ q, (List.range σ.out.length).foldlM (selS σ.out (abvP (lwAt g σ) σ.out.length σ.out.length)) ⟨waitP (fun i => (lwAt g σ i).length) σ.out.length σ.out.length, []⟩ = some q ∧ q.o = o := by
  obtain ⟨σ, h1, h2⟩ := Option.bind_eq_some_iff.1 h
  split at h2
  · rename_i hw
    unfold okW at hw
    rw [Bool.and_eq_true, List.all_eq_true, List.all_eq_true] at hw
    obtain ⟨q, h3, h4⟩ := Option.map_eq_some_iff.1 h2
    refine ⟨σ, h1, fun p hp => by simpa using hw.1 p hp, fun i hi p hp => ?_, q, h3, h4⟩
    have := List.all_eq_true.1 (hw.2 i (List.mem_range.2 hi)) p hp
    simpa using this
  · cases h2
theorem pick_step {ps : List (List ByteArray)} {ws : List Int} {i : Nat} : pickP ps ws (i + 1) = pickS ps ws (pickP ps ws i) i := by
  unfold pickP; rw [List.range_succ, List.foldl_append]; rfl
theorem decS_inv {ws ws2 : List Int} {j : Int} (h : decS ws j = some ws2) : ∃ k : Nat, j = (k : Int) ∧ k < ws.length ∧ ∃ v, ws[k]? = some v ∧ -1000000000 < v ∧ v < 1000000000 ∧ ws2 = ws.set k (v - 1) := by
  unfold decS at h
  split at h
  · rename_i hb
    obtain ⟨h1, h2, h3, h4⟩ := hb
    cases h
    refine ⟨j.toNat, by omega, h2, ws[j.toNat], List.getElem?_eq_getElem h2, ?_, ?_, ?_⟩
    · rw [List.getElem?_eq_getElem h2] at h3; exact h3
    · rw [List.getElem?_eq_getElem h2] at h4; exact h4
    · rw [List.getElem?_eq_getElem h2]; rfl
  · cases h
theorem selS_inv {ps : List (List ByteArray)} {abv : List (List Int)} {ws : List Int} {o : List (List ByteArray)} {i : Nat} {q : PW} (h : selS ps abv ⟨ws, o⟩ i = some q) : 0 ≤ pickP ps ws ws.length ∧ ∃ ws2, ((abv[(pickP ps ws ws.length).toNat]?).getD []).foldlM decS (ws.set (pickP ps ws ws.length).toNat (-1)) = some ws2 ∧ q = ⟨ws2, o ++ [(ps[(pickP ps ws ws.length).toNat]?).getD []]⟩ := by
  unfold selS at h
  simp only at h
  split at h
  · rename_i h0
    obtain ⟨w2, h1, h2⟩ := Option.map_eq_some_iff.1 h
    exact ⟨h0, w2, h1, h2.symm⟩
  · cases h
theorem nxNat {nx : Int} {n : Nat} (h : nx = -1 ∨ ∃ k : Nat, nx = (k : Int) ∧ k < n) (h0 : ¬ nx < 0) : ∃ k : Nat, nx = (k : Int) ∧ k < n := by
  rcases h with rfl | h
  · omega
  · exact h
theorem ab_get {e1 e2 : List An} {v : Value} {xs : List Int} {k : Nat} (h : e1.length = k) : (abC (e1 ++ (v, xs) :: e2))[k]? = some v := by subst h; simp [abC]
theorem map_get {ws : List Int} {k : Nat} {v : Int} (h : ws[k]? = some v) : (ws.map (Value.int .i64))[k]? = some (.int .i64 v) := by rw [List.getElem?_map, h]; rfl
end Go.Ped
namespace Go.Ped
open Go Go.Eng Go.Maps Go.Sort
/-- One comes to another along successors. -/
inductive Rch (G : ByteArray → List ByteArray) : ByteArray → ByteArray → Prop
  | refl (x : ByteArray) : Rch G x x
  | step {x y z : ByteArray} : y ∈ G x → Rch G y z → Rch G x z
theorem Rch.trans {G : ByteArray → List ByteArray} {x y z : ByteArray} (h : Rch G x y) (g : Rch G y z) : Rch G x z := by
  induction h with
  | refl => exact g
  | step h1 _ ih => exact .step h1 (ih g)
theorem Rch.one {G : ByteArray → List ByteArray} {x y : ByteArray} (h : y ∈ G x) : Rch G x y := .step h (.refl y)
theorem Rch.closed {G : ByteArray → List ByteArray} {p : ByteArray → Prop} (hc : ∀ x, p x → ∀ y ∈ G x, p y) {x y : ByteArray} (h : Rch G x y) (hx : p x) : p y := by
  induction h with
  | refl => exact hx
  | step h1 _ ih => exact ih (hc _ hx _ h1)
/-- The place of a name in a list. -/
def ordK : List ByteArray → ByteArray → Nat
  | [], _ => 0
  | k :: ks, x => if k = x then 0 else ordK ks x + 1
theorem ordK_lt {x : ByteArray} : ∀ {ks : List ByteArray}, x ∈ ks → ordK ks x < ks.length
  | [], h => by cases h
  | k :: ks, h => by
    unfold ordK
    split
    · simp
    · rename_i hk
      rcases List.mem_cons.1 h with rfl | h
      · exact absurd rfl hk
      · have := ordK_lt h; simp; omega
theorem ordK_app {x : ByteArray} {l : List ByteArray} : ∀ {ks : List ByteArray}, x ∈ ks → ordK (ks ++ l) x = ordK ks x
  | [], h => by cases h
  | k :: ks, h => by
    rw [List.cons_append]
    unfold ordK
    split
    · rfl
    · rename_i hk
      rcases List.mem_cons.1 h with rfl | h
      · exact absurd rfl hk
      · rw [ordK_app h]
theorem ordK_new {x : ByteArray} {l : List ByteArray} : ∀ {ks : List ByteArray}, ¬ x ∈ ks → ordK (ks ++ x :: l) x = ks.length
  | [], _ => by simp [ordK]
  | k :: ks, h => by
    simp only [List.mem_cons, not_or] at h
    rw [List.cons_append]
    unfold ordK
    rw [if_neg (fun e => h.1 e.symm), ordK_new h.2]; rfl
theorem ordK_inj {x y : ByteArray} : ∀ {ks : List ByteArray}, x ∈ ks → y ∈ ks → ordK ks x = ordK ks y → x = y
  | [], h, _, _ => by cases h
  | k :: ks, hx, hy, e => by
    unfold ordK at e
    split at e
    · rename_i h; split at e
      · rename_i h'; exact h.symm.trans h'
      · omega
    · rename_i h; split at e
      · omega
      · rename_i h'
        rcases List.mem_cons.1 hx with rfl | hx
        · exact absurd rfl h
        · rcases List.mem_cons.1 hy with rfl | hy
          · exact absurd rfl h'
          · exact ordK_inj hx hy (by omega)
theorem nd_le {α : Type} : ∀ {l N : List α}, l.Nodup → (∀ x ∈ l, x ∈ N) → l.length ≤ N.length
  | [], _, _, _ => by simp
  | x :: l, N, hn, h => by
    obtain ⟨A, B, rfl⟩ := List.append_of_mem (h x (by simp))
    have hn' := List.nodup_cons.1 hn
    have := nd_le (l := l) (N := A ++ B) hn'.2 (fun y hy => by
      have h1 := h y (by simp [hy])
      simp only [List.mem_append, List.mem_cons] at h1 ⊢
      rcases h1 with h1 | rfl | h1
      · exact .inl h1
      · exact absurd hy hn'.1
      · exact .inr h1)
    simp at this ⊢; omega
theorem mget_mem {κ α : Type} [DecidableEq κ] {m : List (κ × α)} {k : κ} : (mget m k).isSome = true ↔ k ∈ m.map Prod.fst := by
  rw [mget_some_mem]; simp
theorem mget_not {κ α : Type} [DecidableEq κ] {m : List (κ × α)} {k : κ} : (mget m k).isSome = false ↔ ¬ k ∈ m.map Prod.fst := by
  rw [mget_some_mem]; simp
abbrev kys (σ : TS) : List ByteArray := σ.low.map Prod.fst
abbrev dn (σ : TS) (x : ByteArray) : Prop := (mget σ.inn x).isSome = true
def nm (σ : TS) (x : ByteArray) : Int := (ordK (kys σ) x : Int) + 1
theorem kys_old {m : List (ByteArray × Int)} {k : ByteArray} {v : Int} (h : k ∈ m.map Prod.fst) : (mset m k v).map Prod.fst = m.map Prod.fst := by
  induction m with
  | nil => cases h
  | cons p m ih =>
    rw [mset_cons]
    by_cases hp : p.1 = k
    · rw [if_pos hp]; simp [hp]
    · rw [if_neg hp, List.map_cons, List.map_cons, ih]
      rcases List.mem_cons.1 (by simpa using h : k ∈ p.1 :: m.map Prod.fst) with e | h
      · exact absurd e.symm hp
      · exact h
theorem kys_new {m : List (ByteArray × Int)} {k : ByteArray} {v : Int} (h : ¬ k ∈ m.map Prod.fst) : (mset m k v).map Prod.fst = m.map Prod.fst ++ [k] := by
  rw [mset_new (mget_not.2 h), List.map_append]; rfl
theorem mem_kys {σ : TS} {x : ByteArray} : x ∈ kys σ ↔ (mget σ.low x).isSome = true := mget_mem.symm
theorem inPut_get (n : Nat) (x : ByteArray) : ∀ (l : List ByteArray) (m : List (ByteArray × Int)), mget (inPut m n l) x = if x ∈ l then some (n : Int) else mget m x
  | [], m => by simp [inPut]
  | y :: l, m => by
    rw [inPut, List.foldl_cons, ← inPut, inPut_get n x l, mget_mset]
    by_cases h : x ∈ l
    · simp [h]
    · by_cases e : x = y
      · simp [e]
      · simp [h, e]
theorem vAt_app {s : ByteArray} {A B : List ByteArray} (h : ¬ s ∈ A) : vAt s (A ++ s :: B) = A.length := by
  have hm : s ∈ A ++ s :: B := by simp
  unfold vAt
  have : (A ++ s :: B).findIdx? (fun y => decide (s = y)) = some A.length := by
    rw [List.findIdx?_eq_some_iff_getElem]
    refine ⟨by simp, by simp, ?_⟩
    intro j hj
    rw [List.getElem_append_left hj]
    simp only [decide_eq_true_eq]
    intro e
    exact h (e ▸ List.getElem_mem hj)
  rw [this]; rfl
/-- What holds of the walk between two steps; Gy: those that are being visited. -/
structure Inv (G : ByteArray → List ByteArray) (N Gy : List ByteArray) (σ : TS) : Prop where
  keysN : ∀ x ∈ kys σ, x ∈ N
  nod : (kys σ).Nodup
  part : ∀ x, x ∈ kys σ ↔ x ∈ σ.stk ∨ dn σ x
  disj : ∀ x ∈ σ.stk, ¬ dn σ x
  sorted : σ.stk.Pairwise (fun a b => ordK (kys σ) a < ordK (kys σ) b)
  closed : ∀ x, dn σ x → ∀ y ∈ G x, dn σ y
  greyS : ∀ y ∈ Gy, y ∈ σ.stk
  black : ∀ x ∈ σ.stk, ¬ x ∈ Gy → ∀ y ∈ G x, y ∈ kys σ
  back : ∀ x ∈ σ.stk, ¬ x ∈ Gy → ∃ y ∈ σ.stk, ordK (kys σ) y < ordK (kys σ) x ∧ Rch G x y
  fwd : ∀ y ∈ Gy, ∀ x ∈ σ.stk, ordK (kys σ) y ≤ ordK (kys σ) x → Rch G y x
  lowOf : ∀ x ∈ σ.stk, ∃ y ∈ σ.stk, mget σ.low x = some (nm σ y) ∧ nm σ y ≤ nm σ x ∧ Rch G x y
  out1 : ∀ (i : Nat) p, σ.out[i]? = some p → p ≠ [] ∧ p.Nodup ∧ p.Pairwise (fun a b => leS a b = true) ∧ ∀ x ∈ p, mget σ.inn x = some (i : Int) ∧ ∀ y, (Rch G x y ∧ Rch G y x) ↔ y ∈ p
  out2 : ∀ x n, mget σ.inn x = some n → ∃ (i : Nat) (p : List ByteArray), n = (i : Int) ∧ σ.out[i]? = some p ∧ x ∈ p
  out3 : ∀ x n, mget σ.inn x = some n → ∀ y, Rch G x y → ∃ m, mget σ.inn y = some m ∧ m ≤ n
  cnt : (kys σ).length = σ.stk.length + σ.out.flatten.length
theorem Inv.ne {G : ByteArray → List ByteArray} {N Gy : List ByteArray} {σ : TS} (I : Inv G N Gy σ) : σ.out.length ≤ σ.out.flatten.length := by
  have : ∀ l : List (List ByteArray), (∀ p ∈ l, p ≠ []) → l.length ≤ l.flatten.length := by
    intro l
    induction l with
    | nil => intro _; simp
    | cons p l ih =>
      intro h
      have h1 := ih (fun q hq => h q (by simp [hq]))
      have h2 : 0 < p.length := List.length_pos_iff.2 (h p (by simp))
      rw [List.flatten_cons, List.length_append, List.length_cons]; omega
  refine this _ (fun p hp => ?_)
  obtain ⟨i, hi⟩ := List.getElem?_of_mem hp
  exact (I.out1 i p hi).1
theorem Inv.len {G : ByteArray → List ByteArray} {N Gy : List ByteArray} {σ : TS} (I : Inv G N Gy σ) : (kys σ).length ≤ N.length := nd_le I.nod I.keysN
theorem Inv.stk_k {G : ByteArray → List ByteArray} {N Gy : List ByteArray} {σ : TS} (I : Inv G N Gy σ) {x : ByteArray} (h : x ∈ σ.stk) : x ∈ kys σ := (I.part x).2 (.inl h)
theorem Inv.start (G : ByteArray → List ByteArray) (N : List ByteArray) : Inv G N [] ts0 := by
  constructor <;> simp [ts0, kys, dn, mget_nil]
theorem Inv.stk_nil {G : ByteArray → List ByteArray} {N : List ByteArray} {σ : TS} (I : Inv G N [] σ) : σ.stk = [] := by
  have : ∀ n, ∀ x ∈ σ.stk, ordK (kys σ) x ≤ n → False := by
    intro n
    induction n with
    | zero => intro x hx h; obtain ⟨y, _, h2, _⟩ := I.back x hx (by simp); omega
    | succ n ih => intro x hx h; obtain ⟨y, hy, h2, _⟩ := I.back x hx (by simp); exact ih y hy (by omega)
  cases h : σ.stk with
  | nil => rfl
  | cons x l => exact (this _ x (by rw [h]; simp) (Nat.le_refl _)).elim
theorem kys_vIn {s : ByteArray} {σ : TS} (h : ¬ s ∈ kys σ) : kys (vIn s σ) = kys σ ++ [s] := kys_new h
/-- A name is put upon the stack. -/
theorem Inv.push {G : ByteArray → List ByteArray} {N Gy : List ByteArray} {σ : TS} {s : ByteArray} (I : Inv G N Gy σ) (hs : s ∈ N) (hk : ¬ s ∈ kys σ) (hg : ∀ y ∈ Gy, Rch G y s) : Inv G N (s :: Gy) (vIn s σ) := by
  have hK : kys (vIn s σ) = kys σ ++ [s] := kys_vIn hk
  have ho : ∀ x ∈ kys σ, ordK (kys (vIn s σ)) x = ordK (kys σ) x := fun x hx => by rw [hK, ordK_app hx]
  have hos : ordK (kys (vIn s σ)) s = (kys σ).length := by rw [hK, ordK_new hk]
  have hne : ∀ x ∈ kys σ, x ≠ s := fun x hx e => hk (e ▸ hx)
  have hnm : ∀ x ∈ kys σ, nm (vIn s σ) x = nm σ x := fun x hx => by unfold nm; rw [ho x hx]
  refine ⟨?_, ?_, ?_, ?_, ?_, I.closed, ?_, ?_, ?_, ?_, ?_, I.out1, I.out2, I.out3, ?_⟩
  · intro x hx
    rw [hK, List.mem_append] at hx
    rcases hx with hx | hx
    · exact I.keysN x hx
    · rw [List.mem_singleton.1 hx]; exact hs
  · rw [hK, List.nodup_append]
    exact ⟨I.nod, by simp, fun a ha b hb e => hk (by rw [← List.mem_singleton.1 hb, ← e]; exact ha)⟩
  · intro x
    rw [hK]
    show _ ↔ x ∈ σ.stk ++ [s] ∨ dn σ x
    rw [List.mem_append, List.mem_append, I.part x]
    constructor
    · rintro ((h | h) | h)
      · exact .inl (.inl h)
      · exact .inr h
      · exact .inl (.inr h)
    · rintro ((h | h) | h)
      · exact .inl (.inl h)
      · exact .inr h
      · exact .inl (.inr h)
  · intro x hx
    rcases List.mem_append.1 (show x ∈ σ.stk ++ [s] from hx) with h | h
    · exact I.disj x h
    · rw [List.mem_singleton.1 h]; exact fun hd => hk ((I.part s).2 (.inr hd))
  · show (σ.stk ++ [s]).Pairwise _
    rw [List.pairwise_append]
    refine ⟨I.sorted.imp_of_mem (fun {a b} ha hb h => by rw [ho a (I.stk_k ha), ho b (I.stk_k hb)]; exact h), by simp, fun a ha b hb => ?_⟩
    rw [List.mem_singleton.1 hb, hos, ho a (I.stk_k ha)]
    exact ordK_lt (I.stk_k ha)
  · intro y hy
    rcases List.mem_cons.1 hy with rfl | hy
    · exact List.mem_append_right _ (by simp)
    · exact List.mem_append_left _ (I.greyS y hy)
  · intro x hx hn y hy
    simp only [List.mem_cons, not_or] at hn
    rcases List.mem_append.1 (show x ∈ σ.stk ++ [s] from hx) with h | h
    · rw [hK]; exact List.mem_append_left _ (I.black x h hn.2 y hy)
    · exact absurd (List.mem_singleton.1 h) hn.1
  · intro x hx hn
    simp only [List.mem_cons, not_or] at hn
    rcases List.mem_append.1 (show x ∈ σ.stk ++ [s] from hx) with h | h
    · obtain ⟨y, hy, h1, h2⟩ := I.back x h hn.2
      exact ⟨y, List.mem_append_left _ hy, by rw [ho y (I.stk_k hy), ho x (I.stk_k h)]; exact h1, h2⟩
    · exact absurd (List.mem_singleton.1 h) hn.1
  · intro y hy x hx hxy
    rcases List.mem_append.1 (show x ∈ σ.stk ++ [s] from hx) with h | h
    · rcases List.mem_cons.1 hy with rfl | hy
      · rw [hos, ho x (I.stk_k h)] at hxy
        have := ordK_lt (I.stk_k h); omega
      · rw [ho y (I.stk_k (I.greyS y hy)), ho x (I.stk_k h)] at hxy
        exact I.fwd y hy x h hxy
    · rw [List.mem_singleton.1 h]
      rcases List.mem_cons.1 hy with rfl | hy
      · exact .refl _
      · exact hg y hy
  · intro x hx
    rcases List.mem_append.1 (show x ∈ σ.stk ++ [s] from hx) with h | h
    · obtain ⟨y, hy, h1, h2, h3⟩ := I.lowOf x h
      refine ⟨y, List.mem_append_left _ hy, ?_, ?_, h3⟩
      · show mget (mset σ.low s _) x = _
        rw [mget_mset, if_neg (hne x (I.stk_k h)), h1, hnm y (I.stk_k hy)]
      · rw [hnm y (I.stk_k hy), hnm x (I.stk_k h)]; exact h2
    · rw [List.mem_singleton.1 h]
      refine ⟨s, List.mem_append_right _ (by simp), ?_, Int.le_refl _, .refl _⟩
      show mget (mset σ.low s _) s = _
      rw [mget_mset, if_pos rfl, nm, hos]
      simp [kys]
  · rw [hK]
    show _ = (σ.stk ++ [s]).length + σ.out.flatten.length
    rw [List.length_append, List.length_append, I.cnt]
    simp; omega
/-- What one visit has done. -/
structure Post (G : ByteArray → List ByteArray) (N Gy : List ByteArray) (s : ByteArray) (σ : TS) (r : Int) (σ' : TS) : Prop where
  inv : Inv G N Gy σ'
  ks : ∃ e, kys σ' = kys σ ++ s :: e
  st : ∃ e, σ'.stk = σ.stk ++ e
  wit : ((kys σ).length : Int) < r ∨ ∃ y ∈ σ'.stk, r = nm σ' y ∧ Rch G s y
  lo : ∀ x ∈ σ'.stk, ¬ x ∈ σ.stk → ∀ y ∈ G x, y ∈ σ.stk → r ≤ nm σ' y
structure LI (G : ByteArray → List ByteArray) (N Gy : List ByteArray) (s : ByteArray) (σ : TS) (ps : List ByteArray) (le : Int) (σi : TS) : Prop where
  inv : Inv G N (s :: Gy) σi
  ks : ∃ e, kys σi = kys σ ++ s :: e
  st : ∃ e, σi.stk = σ.stk ++ s :: e
  lm : le ≤ ((kys σ).length : Int) + 1
  wit : ∃ y ∈ σi.stk, le = nm σi y ∧ Rch G s y
  lo : ∀ x ∈ σi.stk, ¬ x ∈ σ.stk → x ≠ s → ∀ y ∈ G x, y ∈ σ.stk → le ≤ nm σi y
  pr : ∀ t ∈ ps, t ∈ kys σi ∧ (t ∈ σ.stk → le ≤ nm σi t)
theorem LI.done {G : ByteArray → List ByteArray} {N Gy : List ByteArray} {s : ByteArray} {σ : TS} {ps : List ByteArray} {le : Int} {σi : TS} (h : LI G N Gy s σ ps le σi) {t : ByteArray} (ht : dn σi t) : LI G N Gy s σ (ps ++ [t]) le σi := by
  refine ⟨h.inv, h.ks, h.st, h.lm, h.wit, h.lo, fun u hu => ?_⟩
  rcases List.mem_append.1 hu with hu | hu
  · exact h.pr u hu
  · rw [List.mem_singleton.1 hu]
    refine ⟨(h.inv.part t).2 (.inr ht), fun hm => ?_⟩
    obtain ⟨e, he⟩ := h.st
    exact absurd ht (h.inv.disj t (by rw [he]; exact List.mem_append_left _ hm))
theorem LI.seen {G : ByteArray → List ByteArray} {N Gy : List ByteArray} {s : ByteArray} {σ : TS} {ps : List ByteArray} {le : Int} {σi : TS} (h : LI G N Gy s σ ps le σi) {t : ByteArray} {n : Int} (hst : t ∈ G s) (hd : ¬ dn σi t) (hn : mget σi.low t = some n) :
    LI G N Gy s σ (ps ++ [t]) (if n < le then n else le) σi := by
  have htk : t ∈ kys σi := by rw [mem_kys, hn]; rfl
  have hts : t ∈ σi.stk := by
    rcases (h.inv.part t).1 htk with h1 | h1
    · exact h1
    · exact absurd h1 hd
  obtain ⟨y, hy, h1, h2, h3⟩ := h.inv.lowOf t hts
  rw [hn] at h1
  have h1 := Option.some.inj h1
  have hle : (if n < le then n else le) ≤ le := by split <;> omega
  have hln : (if n < le then n else le) ≤ n := by split <;> omega
  refine ⟨h.inv, h.ks, h.st, Int.le_trans hle h.lm, ?_, fun x a b c y d e => Int.le_trans hle (h.lo x a b c y d e), fun u hu => ?_⟩
  · by_cases hc : n < le
    · rw [if_pos hc]; exact ⟨y, hy, h1, .step hst h3⟩
    · rw [if_neg hc]; exact h.wit
  · rcases List.mem_append.1 hu with hu | hu
    · exact ⟨(h.pr u hu).1, fun hm => Int.le_trans hle ((h.pr u hu).2 hm)⟩
    · rw [List.mem_singleton.1 hu]
      exact ⟨htk, fun _ => by omega⟩
theorem LI.recd {G : ByteArray → List ByteArray} {N Gy : List ByteArray} {s : ByteArray} {σ : TS} {ps : List ByteArray} {le : Int} {σi σ' : TS} (h : LI G N Gy s σ ps le σi) {t : ByteArray} {r : Int} (hst : t ∈ G s) (hw : ¬ t ∈ kys σi) (hp : Post G N (s :: Gy) t σi r σ') :
    LI G N Gy s σ (ps ++ [t]) (if r < le then r else le) σ' := by
  obtain ⟨e1, he1⟩ := h.ks
  obtain ⟨e2, he2⟩ := h.st
  obtain ⟨e3, he3⟩ := hp.ks
  obtain ⟨e4, he4⟩ := hp.st
  have hnm : ∀ y ∈ kys σi, nm σ' y = nm σi y := fun y hy => by unfold nm; rw [he3, ordK_app hy]
  have hle : (if r < le then r else le) ≤ le := by split <;> omega
  have hlr : (if r < le then r else le) ≤ r := by split <;> omega
  have hsub : ∀ y ∈ σ.stk, y ∈ σi.stk := fun y hy => by rw [he2]; exact List.mem_append_left _ hy
  refine ⟨hp.inv, ⟨e1 ++ t :: e3, by rw [he3, he1]; simp⟩, ⟨e2 ++ e4, by rw [he4, he2]; simp⟩, Int.le_trans hle h.lm, ?_, ?_, fun u hu => ?_⟩
  · by_cases hc : r < le
    · rw [if_pos hc]
      rcases hp.wit with hq | ⟨y, hy, h1, h2⟩
      · have := h.lm
        rw [he1, List.length_append, List.length_cons] at hq
        omega
      · exact ⟨y, hy, h1, .step hst h2⟩
    · rw [if_neg hc]
      obtain ⟨y, hy, h1, h2⟩ := h.wit
      exact ⟨y, by rw [he4]; exact List.mem_append_left _ hy, by rw [hnm y (h.inv.stk_k hy)]; exact h1, h2⟩
  · intro x hx hn hxs y hy hys
    have hyi := hsub y hys
    by_cases hxi : x ∈ σi.stk
    · rw [hnm y (h.inv.stk_k hyi)]; exact Int.le_trans hle (h.lo x hxi hn hxs y hy hys)
    · exact Int.le_trans hlr (hp.lo x hx hxi y hy hyi)
  · rcases List.mem_append.1 hu with hu | hu
    · have := h.pr u hu
      refine ⟨by rw [he3]; exact List.mem_append_left _ this.1, fun hm => ?_⟩
      rw [hnm u this.1]; exact Int.le_trans hle (this.2 hm)
    · rw [List.mem_singleton.1 hu]
      exact ⟨by rw [he3]; simp, fun hm => absurd (h.inv.stk_k (hsub t hm)) hw⟩
theorem LI.start {G : ByteArray → List ByteArray} {N Gy : List ByteArray} {σ : TS} {s : ByteArray} (I : Inv G N Gy σ) (hs : s ∈ N) (hk : ¬ s ∈ kys σ) (hg : ∀ y ∈ Gy, Rch G y s) : LI G N Gy s σ [] ((σ.low.length + 1 : Nat) : Int) (vIn s σ) := by
  refine ⟨I.push hs hk hg, ⟨[], by rw [kys_vIn hk]⟩, ⟨[], rfl⟩, by simp [kys], ⟨s, List.mem_append_right _ (by simp), ?_, .refl _⟩, ?_, fun t ht => by cases ht⟩
  · rw [nm, kys_vIn hk, ordK_new hk]; simp [kys]
  · intro x hx hn hxs
    rcases List.mem_append.1 (show x ∈ σ.stk ++ [s] from hx) with h | h
    · exact absurd h hn
    · exact absurd (List.mem_singleton.1 h) hxs
/-- Behind the loop, where something lower was found. -/
theorem LI.low {G : ByteArray → List ByteArray} {N Gy : List ByteArray} {s : ByteArray} {σ : TS} {le : Int} {σi : TS} (h : LI G N Gy s σ (G s) le σi) (hk : ¬ s ∈ kys σ) (hlt : le < ((kys σ).length : Int) + 1) :
    Post G N Gy s σ le ⟨mset σi.low s le, σi.inn, σi.stk, σi.out⟩ := by
  obtain ⟨e1, he1⟩ := h.ks
  obtain ⟨e2, he2⟩ := h.st
  have hsk : s ∈ kys σi := by rw [he1]; simp
  have hK : kys ⟨mset σi.low s le, σi.inn, σi.stk, σi.out⟩ = kys σi := kys_old hsk
  have hnm : ∀ y, nm ⟨mset σi.low s le, σi.inn, σi.stk, σi.out⟩ y = nm σi y := fun y => by unfold nm; rw [hK]
  have hns : nm σi s = ((kys σ).length : Int) + 1 := by unfold nm; rw [he1, ordK_new hk]
  obtain ⟨y0, hy0, hy1, hy2⟩ := h.wit
  have I := h.inv
  refine ⟨⟨?_, ?_, ?_, I.disj, ?_, I.closed, ?_, ?_, ?_, ?_, ?_, I.out1, I.out2, I.out3, ?_⟩, ?_, ?_, ?_, ?_⟩
  · rw [hK]; exact I.keysN
  · rw [hK]; exact I.nod
  · rw [hK]; exact I.part
  · rw [hK]; exact I.sorted
  · exact fun y hy => I.greyS y (List.mem_cons_of_mem _ hy)
  · intro x hx hn y hy
    rw [hK]
    by_cases e : x = s
    · subst e; exact (h.pr y hy).1
    · exact I.black x hx (by simp [e, hn]) y hy
  · intro x hx hn
    rw [hK]
    by_cases e : x = s
    · subst e
      refine ⟨y0, hy0, ?_, hy2⟩
      have : nm σi y0 < nm σi x := by rw [← hy1, hns]; exact hlt
      unfold nm at this; omega
    · exact I.back x hx (by simp [e, hn])
  · rw [hK]; exact fun y hy => I.fwd y (List.mem_cons_of_mem _ hy)
  · intro x hx
    by_cases e : x = s
    · subst e
      refine ⟨y0, hy0, ?_, ?_, hy2⟩
      · show mget (mset σi.low x le) x = _
        rw [mget_mset, if_pos rfl, hnm, hy1]
      · rw [hnm, hnm, hns, ← hy1]; omega
    · obtain ⟨y, hy, h1, h2, h3⟩ := I.lowOf x hx
      refine ⟨y, hy, ?_, ?_, h3⟩
      · show mget (mset σi.low s le) x = _
        rw [mget_mset, if_neg e, hnm]; exact h1
      · rw [hnm, hnm]; exact h2
  · rw [hK]; exact I.cnt
  · exact ⟨e1, by rw [hK, he1]⟩
  · exact ⟨s :: e2, he2⟩
  · exact .inr ⟨y0, hy0, by rw [hnm]; exact hy1, hy2⟩
  · intro x hx hn y hy hys
    rw [hnm]
    by_cases e : x = s
    · subst e; exact (h.pr y hy).2 hys
    · exact h.lo x hx hn e y hy hys
end Go.Ped
namespace Go.Ped
open Go Go.Eng Go.Maps Go.Sort
theorem isort_mem {x : ByteArray} {l : List ByteArray} : x ∈ isort l ↔ x ∈ l := (isort_perm l).mem_iff
/-- Behind the loop, where nothing lower was found: the class of the name is taken off. -/
theorem LI.pop {G : ByteArray → List ByteArray} {N Gy : List ByteArray} {s : ByteArray} {σ : TS} {le : Int} {σi : TS} (I0 : Inv G N Gy σ) (h : LI G N Gy s σ (G s) le σi) (hk : ¬ s ∈ kys σ) (hge : ¬ le < ((kys σ).length : Int) + 1) :
    s ∈ σi.stk ∧ Post G N Gy s σ (((kys σ).length : Int) + 1) ⟨σi.low, inPut σi.inn σi.out.length (vPart s σi), σi.stk.take (vAt s σi.stk), σi.out ++ [vPart s σi]⟩ := by
  obtain ⟨e1, he1⟩ := h.ks
  obtain ⟨e2, he2⟩ := h.st
  have I := h.inv
  have hss : ¬ s ∈ σ.stk := fun hm => hk (I0.stk_k hm)
  have hA : vAt s σi.stk = σ.stk.length := by rw [he2, vAt_app hss]
  have hT : σi.stk.take (vAt s σi.stk) = σ.stk := by rw [hA, he2, List.take_left]
  have hP : vPart s σi = isort (s :: e2) := by unfold vPart; rw [hA, he2, List.drop_left]
  have hle : le = ((kys σ).length : Int) + 1 := by have := h.lm; omega
  have hns : nm σi s = ((kys σ).length : Int) + 1 := by unfold nm; rw [he1, ordK_new hk]
  have hos : ordK (kys σi) s = (kys σ).length := by rw [he1, ordK_new hk]
  have hsrt := I.sorted
  rw [he2, List.pairwise_append] at hsrt
  obtain ⟨_, hsrtC, hcross⟩ := hsrt
  have hinC : ∀ x ∈ s :: e2, x ∈ σi.stk := fun x hx => by rw [he2]; exact List.mem_append_right _ hx
  have hin0 : ∀ x ∈ σ.stk, x ∈ σi.stk := fun x hx => by rw [he2]; exact List.mem_append_left _ hx
  have hC0 : ∀ x ∈ s :: e2, ¬ x ∈ σ.stk := fun x hx hx0 => by have := hcross x hx0 x hx; omega
  have hgeC : ∀ x ∈ s :: e2, ordK (kys σi) s ≤ ordK (kys σi) x := fun x hx => by
    rcases List.mem_cons.1 hx with rfl | hx
    · exact Nat.le_refl _
    · exact Nat.le_of_lt ((List.pairwise_cons.1 hsrtC).1 x hx)
  have F1 : ∀ x ∈ s :: e2, ∀ y ∈ G x, y ∈ s :: e2 ∨ dn σi y := by
    intro x hx y hy
    have hyk : y ∈ kys σi := by
      by_cases e : x = s
      · subst e; exact (h.pr y hy).1
      · refine I.black x (hinC x hx) ?_ y hy
        simp only [List.mem_cons, not_or]
        exact ⟨e, fun hm => hC0 x hx (I0.greyS x hm)⟩
    rcases (I.part y).1 hyk with h1 | h1
    · rw [he2, List.mem_append] at h1
      rcases h1 with h1 | h1
      · exfalso
        have hlo : le ≤ nm σi y := by
          by_cases e : x = s
          · subst e; exact (h.pr y hy).2 h1
          · exact h.lo x (hinC x hx) (hC0 x hx) e y hy h1
        have := hcross y h1 s (by simp)
        unfold nm at hlo; omega
      · exact .inl h1
    · exact .inr h1
  have F3 : ∀ x z, Rch G x z → x ∈ s :: e2 → z ∈ s :: e2 ∨ dn σi z := by
    intro x z hr hx
    refine Rch.closed (p := fun z => z ∈ s :: e2 ∨ dn σi z) ?_ hr (.inl hx)
    rintro a (ha | ha) b hb
    · exact F1 a ha b hb
    · exact .inr (I.closed a ha b hb)
  have F4 : ∀ n, ∀ x ∈ s :: e2, ordK (kys σi) x ≤ n → Rch G x s := by
    intro n
    induction n using Nat.strongRecOn with
    | _ n ih =>
      intro x hx hn
      by_cases e : x = s
      · subst e; exact .refl _
      · obtain ⟨y, hy, h1, h2⟩ := I.back x (hinC x hx) (by simp only [List.mem_cons, not_or]; exact ⟨e, fun hm => hC0 x hx (I0.greyS x hm)⟩)
        have hyC : y ∈ s :: e2 := by
          rcases F3 x y h2 hx with h3 | h3
          · exact h3
          · exact absurd h3 (I.disj y hy)
        exact h2.trans (ih (ordK (kys σi) y) (by omega) y hyC (Nat.le_refl _))
  have F2 : ∀ x ∈ s :: e2, Rch G s x := fun x hx => I.fwd s (by simp) x (hinC x hx) (hgeC x hx)
  have hnd : ∀ x y, Rch G x y → dn σi x → dn σi y := fun x y hr hx => Rch.closed (p := dn σi) I.closed hr hx
  have F5 : ∀ x ∈ s :: e2, ∀ y, (Rch G x y ∧ Rch G y x) ↔ y ∈ s :: e2 := by
    intro x hx y
    constructor
    · rintro ⟨h1, h2⟩
      rcases F3 x y h1 hx with h3 | h3
      · exact h3
      · exact absurd (hnd y x h2 h3) (I.disj x (hinC x hx))
    · intro hy
      exact ⟨(F4 _ x hx (Nat.le_refl _)).trans (F2 y hy), (F4 _ y hy (Nat.le_refl _)).trans (F2 x hx)⟩
  have hget : ∀ x, mget (inPut σi.inn σi.out.length (vPart s σi)) x = if x ∈ s :: e2 then some (σi.out.length : Int) else mget σi.inn x := by
    intro x
    rw [inPut_get, hP]
    by_cases hx : x ∈ s :: e2
    · rw [if_pos (isort_mem.2 hx), if_pos hx]
    · rw [if_neg (fun hm => hx (isort_mem.1 hm)), if_neg hx]
  have hdn : ∀ x, dn ⟨σi.low, inPut σi.inn σi.out.length (vPart s σi), σi.stk.take (vAt s σi.stk), σi.out ++ [vPart s σi]⟩ x ↔ x ∈ s :: e2 ∨ dn σi x := by
    intro x
    unfold dn
    show (mget (inPut σi.inn σi.out.length (vPart s σi)) x).isSome = true ↔ _
    rw [hget]
    by_cases hx : x ∈ s :: e2
    · simp [hx]
    · rw [if_neg hx]; simp [hx]
  have hnd2 : (s :: e2).Nodup := hsrtC.imp (fun {a b} h e => by subst e; omega)
  refine ⟨hinC s (by simp), ⟨⟨I.keysN, I.nod, ?_, ?_, ?_, ?_, ?_, ?_, ?_, ?_, ?_, ?_, ?_, ?_, ?_⟩, ⟨e1, he1⟩, ⟨[], by rw [List.append_nil]; exact hT⟩, .inl (by omega), ?_⟩⟩
  · intro x
    rw [hdn]
    show _ ↔ x ∈ σi.stk.take _ ∨ _
    rw [hT, I.part x, he2, List.mem_append]
    constructor
    · rintro ((h | h) | h)
      · exact .inl h
      · exact .inr (.inl h)
      · exact .inr (.inr h)
    · rintro (h | h | h)
      · exact .inl (.inl h)
      · exact .inl (.inr h)
      · exact .inr h
  · intro x hx
    rw [hdn]
    have hx : x ∈ σ.stk := by rw [← hT]; exact hx
    rintro (h1 | h1)
    · exact hC0 x h1 hx
    · exact I.disj x (hin0 x hx) h1
  · show (σi.stk.take _).Pairwise _
    rw [hT]
    have := I.sorted
    rw [he2, List.pairwise_append] at this
    exact this.1
  · intro x hx y hy
    rw [hdn] at hx ⊢
    rcases hx with hx | hx
    · exact F1 x hx y hy
    · exact .inr (I.closed x hx y hy)
  · intro y hy
    show y ∈ σi.stk.take _
    rw [hT]; exact I0.greyS y hy
  · intro x hx hn y hy
    have hx : x ∈ σ.stk := by rw [← hT]; exact hx
    exact I.black x (hin0 x hx) (by simp only [List.mem_cons, not_or]; exact ⟨fun e => hss (e ▸ hx), hn⟩) y hy
  · intro x hx hn
    have hx : x ∈ σ.stk := by rw [← hT]; exact hx
    obtain ⟨y, hy, h1, h2⟩ := I.back x (hin0 x hx) (by simp only [List.mem_cons, not_or]; exact ⟨fun e => hss (e ▸ hx), hn⟩)
    refine ⟨y, ?_, h1, h2⟩
    show y ∈ σi.stk.take _
    rw [hT]
    rw [he2, List.mem_append] at hy
    rcases hy with hy | hy
    · exact hy
    · have := hcross x hx y hy
      have h1 : ordK (kys σi) y < ordK (kys σi) x := h1
      omega
  · intro y hy x hx hxy
    have hx : x ∈ σ.stk := by rw [← hT]; exact hx
    exact I.fwd y (List.mem_cons_of_mem _ hy) x (hin0 x hx) hxy
  · intro x hx
    have hx : x ∈ σ.stk := by rw [← hT]; exact hx
    obtain ⟨y, hy, h1, h2, h3⟩ := I.lowOf x (hin0 x hx)
    refine ⟨y, ?_, h1, h2, h3⟩
    show y ∈ σi.stk.take _
    rw [hT]
    rw [he2, List.mem_append] at hy
    rcases hy with hy | hy
    · exact hy
    · have := hcross x hx y hy
      have h2 : nm σi y ≤ nm σi x := h2
      unfold nm at h2; omega
  · intro i p hp
    have hp : (σi.out ++ [vPart s σi])[i]? = some p := hp
    rw [List.getElem?_append] at hp
    split at hp
    · obtain ⟨h1, h2, h3, h4⟩ := I.out1 i p hp
      refine ⟨h1, h2, h3, fun x hx => ⟨?_, (h4 x hx).2⟩⟩
      show mget (inPut σi.inn σi.out.length (vPart s σi)) x = _
      rw [hget, if_neg, (h4 x hx).1]
      intro hC
      refine I.disj x (hinC x hC) ?_
      unfold dn; rw [(h4 x hx).1]; rfl
    · rename_i hi
      have hi2 : i = σi.out.length := by
        have := (List.getElem?_eq_some_iff.1 hp).1
        simp at this; omega
      subst hi2
      rw [Nat.sub_self] at hp
      have hp : vPart s σi = p := Option.some.inj hp
      subst hp
      refine ⟨?_, ?_, ?_, ?_⟩
      · rw [hP]
        intro e
        have : s ∈ isort (s :: e2) := isort_mem.2 (by simp)
        rw [e] at this; cases this
      · rw [hP]; exact (isort_perm _).nodup_iff.2 hnd2
      · rw [hP]; exact isort_sorted _
      · intro x hx
        rw [hP] at hx
        have hx := isort_mem.1 hx
        refine ⟨?_, fun y => ?_⟩
        · show mget (inPut σi.inn σi.out.length (vPart s σi)) x = _
          rw [hget, if_pos hx]
        · rw [hP, isort_mem]; exact F5 x hx y
  · intro x n hx
    have hx : mget (inPut σi.inn σi.out.length (vPart s σi)) x = some n := hx
    rw [hget] at hx
    by_cases hC : x ∈ s :: e2
    · rw [if_pos hC] at hx
      refine ⟨σi.out.length, vPart s σi, (Option.some.inj hx).symm, ?_, ?_⟩
      · show (σi.out ++ [vPart s σi])[σi.out.length]? = _
        simp
      · rw [hP]; exact isort_mem.2 hC
    · rw [if_neg hC] at hx
      obtain ⟨i, p, h1, h2, h3⟩ := I.out2 x n hx
      refine ⟨i, p, h1, ?_, h3⟩
      show (σi.out ++ [vPart s σi])[i]? = _
      rw [List.getElem?_append_left (List.getElem?_eq_some_iff.1 h2).1]; exact h2
  · intro x n hx y hr
    show ∃ m, mget (inPut σi.inn σi.out.length (vPart s σi)) y = some m ∧ m ≤ n
    have hx : mget (inPut σi.inn σi.out.length (vPart s σi)) x = some n := hx
    rw [hget] at hx
    rw [hget]
    by_cases hC : x ∈ s :: e2
    · rw [if_pos hC] at hx
      have hx := Option.some.inj hx
      by_cases hy : y ∈ s :: e2
      · rw [if_pos hy]; exact ⟨_, rfl, by omega⟩
      · rw [if_neg hy]
        rcases F3 x y hr hC with h1 | h1
        · exact absurd h1 hy
        · obtain ⟨m, hm⟩ := Option.isSome_iff_exists.1 h1
          obtain ⟨i, p, h2, h3, _⟩ := I.out2 y m hm
          have := (List.getElem?_eq_some_iff.1 h3).1
          exact ⟨m, hm, by omega⟩
    · rw [if_neg hC] at hx
      obtain ⟨m, hm, hmn⟩ := I.out3 x n hx y hr
      have : ¬ y ∈ s :: e2 := fun hy => I.disj y (hinC y hy) (by unfold dn; rw [hm]; rfl)
      rw [if_neg this]; exact ⟨m, hm, hmn⟩
  · show (kys σi).length = (σi.stk.take _).length + (σi.out ++ [vPart s σi]).flatten.length
    rw [hT, I.cnt, hP, he2]
    simp only [List.length_append, List.flatten_append, List.flatten_cons, List.flatten_nil, List.append_nil, isort_len]
    omega
  · intro x hx hn
    have hx : x ∈ σ.stk := by rw [← hT]; exact hx
    exact absurd hx hn
section
variable {g : Gm} {N : List ByteArray}
/-- Some steps of the loop over what a name leads to. -/
theorem loop_ok {n : Nat} {Gy : List ByteArray} {s : ByteArray} {σ : TS} (hcl : ∀ t ∈ gSuc g s, t ∈ N) (hg : ∀ y ∈ Gy, Rch (gSuc g) y s) (hf : N.length ≤ n + 1 + (kys σ).length)
    (ih : ∀ (t : ByteArray) (τ : TS) (Gy : List ByteArray), Inv (gSuc g) N Gy τ → t ∈ N → ¬ t ∈ kys τ → (∀ y ∈ Gy, Rch (gSuc g) y t) → N.length ≤ n + (kys τ).length → ∃ r τ', visitF g n t τ = some (r, τ') ∧ Post (gSuc g) N Gy t τ r τ') :
    ∀ (ts ps : List ByteArray) (le : Int) (σi : TS), (∀ t ∈ ts, t ∈ gSuc g s) → LI (gSuc g) N Gy s σ ps le σi → ∃ le' σ', ts.foldlM (vStep (visitF g n)) (le, σi) = some (le', σ') ∧ LI (gSuc g) N Gy s σ (ps ++ ts) le' σ'
  | [], ps, le, σi, _, h => ⟨le, σi, rfl, by simpa using h⟩
  | t :: ts, ps, le, σi, hts, h => by
    have hst := hts t (by simp)
    have key : ∃ le2 σ2, vStep (visitF g n) (le, σi) t = some (le2, σ2) ∧ LI (gSuc g) N Gy s σ (ps ++ [t]) le2 σ2 := by
      by_cases hd : (mget σi.inn t).isSome = true
      · exact ⟨le, σi, by simp [vStep, hd], h.done hd⟩
      · by_cases hl : (mget σi.low t).isSome = true
        · obtain ⟨m, hm⟩ := Option.isSome_iff_exists.1 hl
          refine ⟨if m < le then m else le, σi, ?_, h.seen hst hd hm⟩
          simp only [vStep]
          rw [if_neg hd, if_pos hl, hm]
          rfl
        · have hw : ¬ t ∈ kys σi := fun hm => hl (mem_kys.1 hm)
          obtain ⟨e1, he1⟩ := h.ks
          obtain ⟨r, τ', h1, h2⟩ := ih t σi (s :: Gy) h.inv (hcl t hst) hw (fun y hy => by
            rcases List.mem_cons.1 hy with rfl | hy
            · exact Rch.one hst
            · exact (hg y hy).trans (Rch.one hst)) (by rw [he1, List.length_append, List.length_cons]; omega)
          refine ⟨if r < le then r else le, τ', ?_, h.recd hst hw h2⟩
          simp only [vStep]
          rw [if_neg hd, if_neg hl, h1]
          rfl
    obtain ⟨le2, σ2, h1, h2⟩ := key
    obtain ⟨le', σ', h3, h4⟩ := loop_ok hcl hg hf ih ts (ps ++ [t]) le2 σ2 (fun u hu => hts u (by simp [hu])) h2
    refine ⟨le', σ', ?_, by simpa using h4⟩
    rw [List.foldlM_cons, h1]
    exact h3
theorem visit_ok (hN : N.length < 2097152) (hcl : ∀ s ∈ N, ∀ t ∈ gSuc g s, t ∈ N) : ∀ (n : Nat) (s : ByteArray) (σ : TS) (Gy : List ByteArray), Inv (gSuc g) N Gy σ → s ∈ N → ¬ s ∈ kys σ → (∀ y ∈ Gy, Rch (gSuc g) y s) → N.length ≤ n + (kys σ).length →
    ∃ r σ', visitF g n s σ = some (r, σ') ∧ Post (gSuc g) N Gy s σ r σ'
  | n, s, σ, Gy, I, hs, hk, hg, hf => by
    have hlen : (kys σ).length + 1 ≤ N.length := by
      have := nd_le (l := s :: kys σ) (N := N) (List.nodup_cons.2 ⟨hk, I.nod⟩) (fun x hx => by
        rcases List.mem_cons.1 hx with rfl | hx
        · exact hs
        · exact I.keysN x hx)
      simpa using this
    cases n with
    | zero => omega
    | succ n =>
      have hc := I.cnt
      have hkl : (kys σ).length = σ.low.length := by simp [kys]
      obtain ⟨le, σ2, h1, h2⟩ := loop_ok (g := g) (N := N) (n := n) (σ := σ) (hcl s hs) hg (by omega) (visit_ok hN hcl n) (gSuc g s) [] ((σ.low.length + 1 : Nat) : Int) (vIn s σ) (fun t ht => ht) (LI.start I hs hk hg)
      rw [List.nil_append] at h2
      have hmine : ((σ.low.length + 1 : Nat) : Int) = ((kys σ).length : Int) + 1 := by rw [hkl]; omega
      have e1 : visitF g (n + 1) s σ = vOut s ((σ.low.length + 1 : Nat) : Int) (le, σ2) := by
        unfold visitF
        rw [if_pos (by omega), h1]
        rfl
      rw [e1]
      by_cases hlt : le < ((σ.low.length + 1 : Nat) : Int)
      · refine ⟨le, ⟨mset σ2.low s le, σ2.inn, σ2.stk, σ2.out⟩, ?_, h2.low hk (by rw [← hmine]; exact hlt)⟩
        unfold vOut
        rw [if_pos hlt]
      · obtain ⟨hm, hp⟩ := h2.pop I hk (by rw [← hmine]; exact hlt)
        have hc2 := h2.inv.cnt
        have hl2 := h2.inv.len
        have hne := h2.inv.ne
        have hpos : 0 < σ2.stk.length := List.length_pos_of_mem hm
        refine ⟨((σ.low.length + 1 : Nat) : Int), _, ?_, by rw [hmine]; exact hp⟩
        unfold vOut
        have hb1 : σ2.stk.length < 2097152 := by omega
        have hb2 : σ2.out.length < 2097151 := by omega
        rw [if_neg hlt, if_pos ⟨hm, hb1, hb2⟩]
/-- What the whole walk finds. -/
structure PartsOk (g : Gm) (σ : TS) : Prop where
  all : ∀ x ∈ g.map Prod.fst, ∃ n, mget σ.inn x = some n
  only : ∀ x n, mget σ.inn x = some n → x ∈ g.map Prod.fst
  out1 : ∀ (i : Nat) p, σ.out[i]? = some p → p ≠ [] ∧ p.Nodup ∧ p.Pairwise (fun a b => leS a b = true) ∧ ∀ x ∈ p, mget σ.inn x = some (i : Int) ∧ ∀ y, (Rch (gSuc g) x y ∧ Rch (gSuc g) y x) ↔ y ∈ p
  out2 : ∀ x n, mget σ.inn x = some n → ∃ (i : Nat) (p : List ByteArray), n = (i : Int) ∧ σ.out[i]? = some p ∧ x ∈ p
  out3 : ∀ x n, mget σ.inn x = some n → ∀ y, Rch (gSuc g) x y → ∃ m, mget σ.inn y = some m ∧ m ≤ n
  len : σ.out.length ≤ g.length
theorem namesG_mem {g : Gm} {x : ByteArray} : x ∈ namesG g ↔ x ∈ g.map Prod.fst := isort_mem
theorem parts_ok (ok : GOk g) (hcl : ∀ s ∈ g.map Prod.fst, ∀ t ∈ gSuc g s, t ∈ g.map Prod.fst) : ∃ σ, partsF g = some σ ∧ PartsOk g σ := by
  have hN : (g.map Prod.fst).length < 2097152 := by rw [List.length_map]; exact ok.len
  have key : ∀ (ts : List ByteArray) (σ : TS), (∀ t ∈ ts, t ∈ g.map Prod.fst) → Inv (gSuc g) (g.map Prod.fst) [] σ → ∃ σ', ts.foldlM (pStep g) σ = some σ' ∧ Inv (gSuc g) (g.map Prod.fst) [] σ' ∧ (∀ x ∈ ts, x ∈ kys σ') ∧ ∀ x ∈ kys σ, x ∈ kys σ' := by
    intro ts
    induction ts with
    | nil => intro σ _ I; exact ⟨σ, rfl, I, fun x h => (by cases h), fun x h => h⟩
    | cons t ts ih =>
      intro σ hts I
      have h1 : ∃ σ1, pStep g σ t = some σ1 ∧ Inv (gSuc g) (g.map Prod.fst) [] σ1 ∧ t ∈ kys σ1 ∧ ∀ x ∈ kys σ, x ∈ kys σ1 := by
        by_cases hd : (mget σ.inn t).isSome = true
        · exact ⟨σ, by simp [pStep, hd], I, (I.part t).2 (.inr hd), fun x h => h⟩
        · have hw : ¬ t ∈ kys σ := by
            intro hm
            rcases (I.part t).1 hm with h1 | h1
            · rw [I.stk_nil] at h1; cases h1
            · exact hd h1
          obtain ⟨r, σ', h1, h2⟩ := visit_ok hN hcl (g.length + 1) t σ [] I (hts t (by simp)) hw (fun y hy => by cases hy) (by rw [List.length_map]; omega)
          obtain ⟨e, he⟩ := h2.ks
          refine ⟨σ', ?_, h2.inv, by rw [he]; simp, fun x hx => by rw [he]; exact List.mem_append_left _ hx⟩
          simp only [pStep]
          rw [if_neg hd, h1]
          rfl
      obtain ⟨σ1, h2, I1, h3, h4⟩ := h1
      obtain ⟨σ', h5, I', h6, h7⟩ := ih σ1 (fun u hu => hts u (by simp [hu])) I1
      refine ⟨σ', ?_, I', fun x hx => ?_, fun x hx => h7 x (h4 x hx)⟩
      · rw [List.foldlM_cons, h2]; exact h5
      · rcases List.mem_cons.1 hx with rfl | hx
        · exact h7 _ h3
        · exact h6 x hx
  obtain ⟨σ, h1, I, h2, _⟩ := key (namesG g) ts0 (fun t ht => namesG_mem.1 ht) (Inv.start _ _)
  have hlen : σ.out.length ≤ g.length := by
    have h3 := I.ne; have h4 := I.cnt; have h5 := I.len
    have h6 : (g.map Prod.fst).length = g.length := List.length_map ..
    omega
  refine ⟨σ, ?_, ⟨fun x hx => ?_, fun x n hx => ?_, I.out1, I.out2, I.out3, hlen⟩⟩
  · unfold partsF
    rw [h1]
    show (if σ.out.length < 2097152 then some σ else none) = some σ
    rw [if_pos (by have := ok.len; omega)]
  · have hk := h2 x (namesG_mem.2 hx)
    rcases (I.part x).1 hk with h3 | h3
    · rw [I.stk_nil] at h3; cases h3
    · exact Option.isSome_iff_exists.1 h3
  · exact I.keysN x ((I.part x).2 (.inr (by unfold dn; rw [hx]; rfl)))
end
end Go.Ped
namespace Go.Ped
open Go Go.Eng Go.Maps Go.Sort
abbrev ltS (a b : ByteArray) : Bool := Op.bytesLess a.toList b.toList
theorem bl_iff : ∀ (a b : List UInt8), Op.bytesLess a b = true ↔ a < b
  | a, [] => by cases a <;> simp [Op.bytesLess]
  | [], b :: y => by simp [Op.bytesLess]
  | a :: x, b :: y => by
    rw [List.cons_lt_cons_iff, Op.bytesLess, ← bl_iff x y]
    simp
theorem ltS_iff (a b : ByteArray) : ltS a b = true ↔ leS b a = false := by
  unfold ltS leS leB tlB
  rw [bl_iff, ByteArray.toList_eq, ByteArray.toList_eq, decide_eq_false_iff_not, List.not_le]
theorem ltS_trans {a b c : ByteArray} (h : ltS a b = true) (g : ltS b c = true) : ltS a c = true := by
  unfold ltS at *
  rw [bl_iff] at *
  exact List.lt_trans h g
theorem ltS_irr (a : ByteArray) : ltS a a = false := by
  cases h : ltS a a with
  | false => rfl
  | true => unfold ltS at h; rw [bl_iff] at h; exact absurd h (List.lt_irrefl _)
theorem leS_anti {a b : ByteArray} (h : leS a b = true) (g : leS b a = true) : a = b := by
  unfold leS leB at *
  simp only [decide_eq_true_eq] at *
  exact tlB_inj (List.le_antisymm h g)
theorem ltS_tri (a b : ByteArray) : ltS a b = true ∨ a = b ∨ ltS b a = true := by
  by_cases h : leS a b = true
  · by_cases g : leS b a = true
    · exact .inr (.inl (leS_anti h g))
    · exact .inl ((ltS_iff a b).2 (by simpa using g))
  · exact .inr (.inr ((ltS_iff b a).2 (by simpa using h)))
section
variable {ps : List (List ByteArray)} {ws : List Int}
theorem pick_none (i : Nat) : pickP ps ws i = -1 ∨ ∃ k : Nat, pickP ps ws i = (k : Int) ∧ k < i ∧ (ws[k]?).getD 1 = 0 := by
  induction i with
  | zero => exact .inl rfl
  | succ i ih =>
    rw [pick_step]
    unfold pickS
    split
    · rename_i h; exact .inr ⟨i, rfl, by omega, h.1⟩
    · rcases ih with h | ⟨k, h1, h2, h3⟩
      · exact .inl h
      · exact .inr ⟨k, h1, by omega, h3⟩
theorem pick_zero (i : Nat) (h : pickP ps ws i = -1) : ∀ j, j < i → (ws[j]?).getD 1 ≠ 0 := by
  induction i with
  | zero => intro j hj; omega
  | succ i ih =>
    rw [pick_step] at h
    unfold pickS at h
    split at h
    · omega
    · rename_i hn
      intro j hj e
      rcases Nat.lt_succ_iff_lt_or_eq.1 hj with hj | rfl
      · exact ih h j hj e
      · exact hn ⟨e, .inl (by omega)⟩
theorem pick_min (i k : Nat) (h : pickP ps ws i = (k : Int)) : ∀ j, j < i → (ws[j]?).getD 1 = 0 → ltS (hdS ((ps[j]?).getD [])) (hdS ((ps[k]?).getD [])) = false := by
  induction i generalizing k with
  | zero => intro j hj; omega
  | succ i ih =>
    rw [pick_step] at h
    unfold pickS at h
    intro j hj e
    rw [Bool.eq_false_iff]
    intro hlt
    split at h
    · rename_i hc
      have hk : i = k := by omega
      subst hk
      rcases Nat.lt_succ_iff_lt_or_eq.1 hj with hj | rfl
      · rcases pick_none (ps := ps) (ws := ws) i with h1 | ⟨m, h1, _, _⟩
        · exact pick_zero i h1 j hj e
        · have h2 := ih m h1 j hj e
          rcases hc.2 with h3 | h3
          · omega
          · rw [h1, Int.toNat_natCast] at h3
            have := ltS_trans hlt h3
            rw [h2] at this; cases this
      · rw [ltS_irr] at hlt; cases hlt
    · rename_i hc
      rcases Nat.lt_succ_iff_lt_or_eq.1 hj with hj | rfl
      · have := ih k h j hj e
        rw [this] at hlt; cases hlt
      · refine hc ⟨e, .inr ?_⟩
        rw [h, Int.toNat_natCast]; exact hlt
end
theorem mset_keys {κ α : Type} [DecidableEq κ] (m : List (κ × α)) (k : κ) (v : α) (q : κ) : q ∈ (mset m k v).map Prod.fst ↔ q = k ∨ q ∈ m.map Prod.fst := by
  rw [← mget_mem, isSome_mset, Bool.or_eq_true, decide_eq_true_eq, mget_mem]
theorem lwT_mem (inn : Li) (i : Nat) (q : Int) : ∀ (ts : List ByteArray) (m : List (Int × Unit)), q ∈ (ts.foldl (lwT inn i) m).map Prod.fst ↔ q ∈ m.map Prod.fst ∨ ∃ t ∈ ts, iget inn t = q ∧ q ≠ (i : Int)
  | [], m => by simp
  | t :: ts, m => by
    rw [List.foldl_cons, lwT_mem inn i q ts]
    unfold lwT
    split
    · rename_i h
      rw [mset_keys]
      constructor
      · rintro ((rfl | h1) | ⟨u, hu, h1⟩)
        · exact .inr ⟨t, by simp, rfl, h⟩
        · exact .inl h1
        · exact .inr ⟨u, by simp [hu], h1⟩
      · rintro (h1 | ⟨u, hu, h1, h2⟩)
        · exact .inl (.inr h1)
        · rcases List.mem_cons.1 hu with rfl | hu
          · exact .inl (.inl h1.symm)
          · exact .inr ⟨u, hu, h1, h2⟩
    · rename_i h
      have h := Classical.not_not.1 h
      constructor
      · rintro (h1 | ⟨u, hu, h1⟩)
        · exact .inl h1
        · exact .inr ⟨u, by simp [hu], h1⟩
      · rintro (h1 | ⟨u, hu, h1, h2⟩)
        · exact .inl h1
        · rcases List.mem_cons.1 hu with rfl | hu
          · exact absurd (h1.symm.trans h) h2
          · exact .inr ⟨u, hu, h1, h2⟩
theorem lw_mem {g : Gm} {inn : Li} {i : Nat} {q : Int} {part : List ByteArray} : q ∈ (lwF g inn i part).map Prod.fst ↔ ∃ s ∈ part, ∃ t ∈ gSuc g s, iget inn t = q ∧ q ≠ (i : Int) := by
  have : ∀ (ss : List ByteArray) (m : List (Int × Unit)), q ∈ (ss.foldl (lwS g inn i) m).map Prod.fst ↔ q ∈ m.map Prod.fst ∨ ∃ s ∈ ss, ∃ t ∈ gSuc g s, iget inn t = q ∧ q ≠ (i : Int) := by
    intro ss
    induction ss with
    | nil => intro m; simp
    | cons s ss ih =>
      intro m
      rw [List.foldl_cons, ih, lwS, lwT_mem]
      constructor
      · rintro ((h | h) | ⟨u, hu, h⟩)
        · exact .inl h
        · exact .inr ⟨s, by simp, h⟩
        · exact .inr ⟨u, by simp [hu], h⟩
      · rintro (h | ⟨u, hu, h⟩)
        · exact .inl (.inl h)
        · rcases List.mem_cons.1 hu with rfl | hu
          · exact .inl (.inr h)
          · exact .inr ⟨u, hu, h⟩
  have := this part []
  simpa [lwF] using this
section
variable {g : Gm} {σ : TS}
/-- One part leans on another at once. -/
def Lwr (g : Gm) (σ : TS) (i j : Nat) : Prop := (j : Int) ∈ (lwAt g σ i).map Prod.fst
instance (i j : Nat) : Decidable (Lwr g σ i j) := inferInstanceAs (Decidable ((j : Int) ∈ (lwAt g σ i).map Prod.fst))
theorem PartsOk.iget (h : PartsOk g σ) {x : ByteArray} {n : Int} (hx : mget σ.inn x = some n) : Go.Ped.iget σ.inn x = n := by unfold Go.Ped.iget; rw [hx]; rfl
theorem PartsOk.succ (h : PartsOk g σ) (hcl : ∀ s ∈ g.map Prod.fst, ∀ t ∈ gSuc g s, t ∈ g.map Prod.fst) {i : Nat} {q : Int} (hq : q ∈ (lwAt g σ i).map Prod.fst) : ∃ j : Nat, q = (j : Int) ∧ j < i := by
  unfold lwAt at hq
  obtain ⟨s, hs, t, ht, h1, h2⟩ := lw_mem.1 hq
  cases hp : σ.out[i]? with
  | none => rw [hp] at hs; cases hs
  | some p =>
    rw [hp] at hs
    have hs : s ∈ p := hs
    have hi := ((h.out1 i p hp).2.2.2 s hs).1
    obtain ⟨m, hm, hle⟩ := h.out3 s _ hi t (Rch.one ht)
    obtain ⟨j, p', hj, _, _⟩ := h.out2 t m hm
    rw [h.iget hm] at h1
    exact ⟨j, by omega, by omega⟩
theorem lwAt_nodup (g : Gm) (σ : TS) (i : Nat) : ((lwAt g σ i).map Prod.fst).Nodup := lwF_nodup _ _ _ _
/-- What is left to wait for. -/
def wL (g : Gm) (σ : TS) (C : List Nat) (i : Nat) : Int := if i ∈ C then -1 else ((((lwAt g σ i).map Prod.fst).filter fun q => decide (¬ q.toNat ∈ C)).length : Int)
theorem decS_some {ws : List Int} {j : Nat} {v : Int} (h : ws[j]? = some v) (h1 : -1000000000 < v) (h2 : v < 1000000000) : decS ws (j : Int) = some (ws.set j (v - 1)) := by
  have hl := (List.getElem?_eq_some_iff.1 h).1
  unfold decS
  rw [if_pos ⟨by omega, by simpa using hl, by rw [Int.toNat_natCast, h]; exact h1, by rw [Int.toNat_natCast, h]; exact h2⟩, Int.toNat_natCast, h]
  rfl
theorem decs_ok : ∀ (js : List Nat) (ws : List Int), js.Nodup → (∀ j ∈ js, ∃ v, ws[j]? = some v ∧ -1000000000 < v ∧ v < 1000000000) →
    ∃ ws2, (js.map fun j : Nat => (j : Int)).foldlM decS ws = some ws2 ∧ ws2.length = ws.length ∧ ∀ i : Nat, ws2[i]? = if i ∈ js then (ws[i]?).map (· - 1) else ws[i]?
  | [], ws, _, _ => ⟨ws, rfl, rfl, fun i => by simp⟩
  | j :: js, ws, hn, hb => by
    have hn' := List.nodup_cons.1 hn
    obtain ⟨v, h1, h2, h3⟩ := hb j (by simp)
    have hjl := (List.getElem?_eq_some_iff.1 h1).1
    obtain ⟨ws2, h4, h5, h6⟩ := decs_ok js (ws.set j (v - 1)) hn'.2 (fun k hk => by
      obtain ⟨u, g1, g2⟩ := hb k (by simp [hk])
      refine ⟨u, ?_, g2⟩
      rw [List.getElem?_set, if_neg (show ¬ j = k from fun e => hn'.1 (e ▸ hk))]; exact g1)
    refine ⟨ws2, ?_, by rw [h5, List.length_set], fun i => ?_⟩
    · rw [List.map_cons, List.foldlM_cons, decS_some h1 h2 h3]; exact h4
    · rw [h6]
      by_cases hi : i = j
      · subst hi
        rw [if_neg hn'.1, if_pos (by simp), List.getElem?_set, if_pos rfl, if_pos hjl, h1]; rfl
      · rw [List.getElem?_set, if_neg (show ¬ j = i from fun e => hi e.symm)]
        simp [hi]
theorem nd_leI {l : List Int} {j : Nat} (hn : l.Nodup) (h : ∀ q ∈ l, ∃ k : Nat, q = (k : Int) ∧ k < j) : l.length ≤ j := by
  have := nd_le (N := (List.range j).map fun k : Nat => (k : Int)) hn (fun q hq => by
    obtain ⟨k, rfl, hk⟩ := h q hq
    exact List.mem_map_of_mem (List.mem_range.2 hk))
  simpa using this
def hdP (σ : TS) (i : Nat) : ByteArray := hdS ((σ.out[i]?).getD [])
/-- A beginning of the order from below. -/
structure Beg (g : Gm) (σ : TS) (C : List Nat) : Prop where
  nod : C.Nodup
  lt : ∀ c ∈ C, c < σ.out.length
  low : ∀ (i c : Nat), C[i]? = some c → ∀ j, Lwr g σ c j → j ∈ C.take i
  least : ∀ (i c : Nat), C[i]? = some c → ∀ d, d < σ.out.length → ¬ d ∈ C.take i → (∀ j, Lwr g σ d j → j ∈ C.take i) → ltS (hdP σ d) (hdP σ c) = false
theorem filter_pos {l : List Int} {p : Int → Bool} {q : Int} (h : q ∈ l) (hp : p q = true) : 0 < (l.filter p).length := List.length_pos_of_mem (List.mem_filter.2 ⟨h, hp⟩)
theorem filter_rem {l : List Int} {C : List Nat} {nx : Nat} (hn : l.Nodup) (hp : ∀ q ∈ l, ∃ j : Nat, q = (j : Int)) (hC : ¬ nx ∈ C) :
    ((l.filter fun q => decide (¬ q.toNat ∈ C)).length : Int) = ((l.filter fun q => decide (¬ q.toNat ∈ C ++ [nx])).length : Int) + (if (nx : Int) ∈ l then 1 else 0) := by
  induction l with
  | nil => simp
  | cons q l ih =>
    have hn' := List.nodup_cons.1 hn
    have ih := ih hn'.2 (fun r hr => hp r (by simp [hr]))
    obtain ⟨j, rfl⟩ := hp q (by simp)
    by_cases hj : j = nx
    · subst hj
      rw [List.filter_cons_of_pos (by simpa using hC), List.filter_cons_of_neg (by simp), if_pos (by simp)]
      rw [if_neg hn'.1] at ih
      rw [List.length_cons]; omega
    · have e1 : ((nx : Int) ∈ ((j : Int)) :: l) ↔ (nx : Int) ∈ l := by
        rw [List.mem_cons]
        constructor
        · rintro (h | h)
          · omega
          · exact h
        · exact .inr
      by_cases hm : j ∈ C
      · rw [List.filter_cons_of_neg (by simpa using hm), List.filter_cons_of_neg (by simp [hm]), ih]
        simp only [e1]
      · rw [List.filter_cons_of_pos (by simpa using hm), List.filter_cons_of_pos (by simp [hm, hj]), List.length_cons, List.length_cons]
        simp only [e1]; omega
theorem abvP_get {n k : Nat} (hk : k < n) (M : Nat → List (Int × Unit)) : ((abvP M n n)[k]?).getD [] = ((List.range n).filter fun j => decide ((k : Int) ∈ (M j).map Prod.fst)).map fun j : Nat => (j : Int) := by
  unfold abvP
  rw [List.getElem?_map, List.getElem?_range hk]
  rfl
/-- One more part is put. -/
theorem sel_ok (ok : PartsOk g σ) (hg : g.length < 2097152) (hcl : ∀ s ∈ g.map Prod.fst, ∀ t ∈ gSuc g s, t ∈ g.map Prod.fst) {C : List Nat} (hC : Beg g σ C) (hlen : C.length < σ.out.length) (k : Nat) :
    ∃ nx, Beg g σ (C ++ [nx]) ∧ selS σ.out (abvP (lwAt g σ) σ.out.length σ.out.length) ⟨(List.range σ.out.length).map (wL g σ C), C.map fun i => (σ.out[i]?).getD []⟩ k =
      some ⟨(List.range σ.out.length).map (wL g σ (C ++ [nx])), (C ++ [nx]).map fun i => (σ.out[i]?).getD []⟩ := by
  have hL : σ.out.length ≤ 2097151 := by have := ok.len; omega
  have hwl : ((List.range σ.out.length).map (wL g σ C)).length = σ.out.length := by simp
  have hwg : ∀ i, i < σ.out.length → ((List.range σ.out.length).map (wL g σ C))[i]? = some (wL g σ C i) := fun i hi => by rw [List.getElem?_map, List.getElem?_range hi]; rfl
  have hnat : ∀ i q, q ∈ (lwAt g σ i).map Prod.fst → ∃ j : Nat, q = (j : Int) ∧ j < i := fun i q hq => ok.succ hcl hq
  have hw0 : ∀ i, wL g σ C i = 0 ↔ ¬ i ∈ C ∧ ∀ j, Lwr g σ i j → j ∈ C := by
    intro i
    unfold wL
    by_cases hi : i ∈ C
    · simp [hi]
    · rw [if_neg hi]
      constructor
      · intro h
        refine ⟨hi, fun j hj => Classical.not_not.1 fun hn => ?_⟩
        have := filter_pos (p := fun q => decide (¬ q.toNat ∈ C)) hj (by simpa using hn)
        omega
      · rintro ⟨_, h⟩
        have : ((lwAt g σ i).map Prod.fst).filter (fun q => decide (¬ q.toNat ∈ C)) = [] := by
          rw [List.filter_eq_nil_iff]
          intro q hq
          obtain ⟨j, rfl, _⟩ := hnat i q hq
          simpa using h j hq
        rw [this]; rfl
  have hex : ∃ m, m < σ.out.length ∧ ¬ m ∈ C ∧ ∀ j, Lwr g σ m j → j ∈ C := by
    have h1 : ∃ m, m < σ.out.length ∧ ¬ m ∈ C := by
      apply Classical.byContradiction
      intro hno
      have h2 : (List.range σ.out.length).length ≤ C.length := by
        refine nd_le List.nodup_range (fun x hx => ?_)
        exact Classical.not_not.1 fun hn => hno ⟨x, List.mem_range.1 hx, hn⟩
      rw [List.length_range] at h2; omega
    obtain ⟨m, hm1, hm2⟩ := h1
    induction m using Nat.strongRecOn with
    | _ m ih =>
      by_cases h : ∀ j, Lwr g σ m j → j ∈ C
      · exact ⟨m, hm1, hm2, h⟩
      · obtain ⟨j, hj⟩ := Classical.not_forall.1 h
        have hj1 : Lwr g σ m j := Classical.not_not.1 fun hn => hj (fun h => absurd h hn)
        have hj2 : ¬ j ∈ C := fun hm => hj (fun _ => hm)
        obtain ⟨j', e, hlt⟩ := hnat m _ hj1
        have : j = j' := by omega
        subst this
        exact ih j hlt (by omega) hj2
  obtain ⟨m, hm1, hm2, hm3⟩ := hex
  have hpk : ∃ nx : Nat, pickP σ.out ((List.range σ.out.length).map (wL g σ C)) σ.out.length = (nx : Int) ∧ nx < σ.out.length ∧ wL g σ C nx = 0 := by
    rcases pick_none (ps := σ.out) (ws := (List.range σ.out.length).map (wL g σ C)) σ.out.length with h | ⟨nx, h1, h2, h3⟩
    · refine absurd ?_ (pick_zero _ h m hm1)
      rw [hwg m hm1]; exact (hw0 m).2 ⟨hm2, hm3⟩
    · rw [hwg nx h2] at h3; exact ⟨nx, h1, h2, h3⟩
  obtain ⟨nx, hp1, hp2, hp3⟩ := hpk
  have hnx := (hw0 nx).1 hp3
  refine ⟨nx, ⟨?_, ?_, ?_, ?_⟩, ?_⟩
  · rw [List.nodup_append]
    exact ⟨hC.nod, by simp, fun a ha b hb e => hnx.1 (by rw [← List.mem_singleton.1 hb, ← e]; exact ha)⟩
  · intro c hc
    rcases List.mem_append.1 hc with hc | hc
    · exact hC.lt c hc
    · rw [List.mem_singleton.1 hc]; exact hp2
  · intro i c hc j hj
    rw [List.getElem?_append] at hc
    split at hc
    · rename_i hi
      rw [List.take_append_of_le_length (by omega)]; exact hC.low i c hc j hj
    · rename_i hi
      have hi2 : i = C.length := by
        have := (List.getElem?_eq_some_iff.1 hc).1
        simp at this; omega
      subst hi2
      rw [Nat.sub_self] at hc
      have hc : nx = c := Option.some.inj hc
      subst hc
      rw [List.take_left]; exact hnx.2 j hj
  · intro i c hc d hd hdn hdl
    rw [List.getElem?_append] at hc
    split at hc
    · rename_i hi
      rw [List.take_append_of_le_length (by omega)] at hdn hdl
      exact hC.least i c hc d hd hdn hdl
    · rename_i hi
      have hi2 : i = C.length := by
        have := (List.getElem?_eq_some_iff.1 hc).1
        simp at this; omega
      subst hi2
      rw [Nat.sub_self] at hc
      have hc : nx = c := Option.some.inj hc
      subst hc
      rw [List.take_left] at hdn hdl
      exact pick_min _ _ hp1 d hd (by rw [hwg d hd]; exact (hw0 d).2 ⟨hdn, hdl⟩)
  · have hjs : (List.range σ.out.length).filter (fun j => decide ((nx : Int) ∈ (lwAt g σ j).map Prod.fst)) = (List.range σ.out.length).filter (fun j => decide (Lwr g σ j nx)) := rfl
    obtain ⟨ws2, h1, h2, h3⟩ := decs_ok ((List.range σ.out.length).filter fun j => decide ((nx : Int) ∈ (lwAt g σ j).map Prod.fst)) (((List.range σ.out.length).map (wL g σ C)).set nx (-1)) (List.nodup_range.filter _) (by
      intro j hj
      obtain ⟨hj1, hj2⟩ := List.mem_filter.1 hj
      have hj1 := List.mem_range.1 hj1
      have hj2 : Lwr g σ j nx := of_decide_eq_true hj2
      have hne : nx ≠ j := by
        intro e; subst e
        obtain ⟨j', e, hlt⟩ := hnat nx _ hj2
        omega
      refine ⟨wL g σ C j, ?_, ?_, ?_⟩
      · rw [List.getElem?_set, if_neg hne]; exact hwg j hj1
      · unfold wL; split <;> omega
      · unfold wL
        split
        · omega
        · have e1 := List.length_filter_le (fun q : Int => decide (¬ q.toNat ∈ C)) ((lwAt g σ j).map Prod.fst)
          have e2 : ((lwAt g σ j).map Prod.fst).length ≤ j := nd_leI (lwAt_nodup g σ j) (fun q hq => hnat j q hq)
          omega)
    have e9 : ws2 = (List.range σ.out.length).map (wL g σ (C ++ [nx])) := by
      apply List.ext_getElem?
      intro i
      rw [h3]
      by_cases hi : i < σ.out.length
      · rw [List.getElem?_map, List.getElem?_range hi, List.getElem?_set, hwl]
        have hmf : i ∈ (List.range σ.out.length).filter (fun j => decide ((nx : Int) ∈ (lwAt g σ j).map Prod.fst)) ↔ (nx : Int) ∈ (lwAt g σ i).map Prod.fst := by
          rw [List.mem_filter, List.mem_range]
          constructor
          · exact fun h => by simpa using h.2
          · exact fun h => ⟨hi, by simpa using h⟩
        by_cases he : nx = i
        · subst he
          have hno : ¬ (nx : Int) ∈ (lwAt g σ nx).map Prod.fst := fun hm => by
            obtain ⟨j', e, hlt⟩ := hnat nx _ hm
            omega
          rw [if_neg (fun h => hno (hmf.1 h)), if_pos rfl, if_pos hi]
          show some (-1) = some (wL g σ (C ++ [nx]) nx)
          unfold wL
          rw [if_pos (by simp)]
        · rw [if_neg he, hwg i hi]
          show (if _ then (some (wL g σ C i)).map (· - 1) else some (wL g σ C i)) = some (wL g σ (C ++ [nx]) i)
          by_cases hiC : i ∈ C
          · have hnl : ¬ (nx : Int) ∈ (lwAt g σ i).map Prod.fst := by
              intro hm
              obtain ⟨p, hp⟩ := List.getElem?_of_mem hiC
              exact hnx.1 (List.mem_of_mem_take (hC.low p i hp nx hm))
            rw [if_neg (fun h => hnl (hmf.1 h))]
            unfold wL
            rw [if_pos hiC, if_pos (List.mem_append_left _ hiC)]
          · have hr := filter_rem (l := (lwAt g σ i).map Prod.fst) (C := C) (nx := nx) (lwAt_nodup g σ i) (fun q hq => by obtain ⟨j, hj, _⟩ := hnat i q hq; exact ⟨j, hj⟩) hnx.1
            have hiC2 : ¬ i ∈ C ++ [nx] := by simp [hiC]; exact fun e => he e.symm
            unfold wL
            rw [if_neg hiC, if_neg hiC2]
            by_cases hm : (nx : Int) ∈ (lwAt g σ i).map Prod.fst
            · rw [if_pos (hmf.2 hm)]
              rw [if_pos hm] at hr
              refine congrArg some ?_
              show _ - 1 = _
              omega
            · rw [if_neg (fun h => hm (hmf.1 h))]
              rw [if_neg hm] at hr
              refine congrArg some ?_
              omega
      · have hmf : ¬ i ∈ (List.range σ.out.length).filter (fun j => decide ((nx : Int) ∈ (lwAt g σ j).map Prod.fst)) := by
          rw [List.mem_filter, List.mem_range]; exact fun h => hi h.1
        rw [if_neg hmf, List.getElem?_eq_none (by rw [List.length_set, hwl]; omega), List.getElem?_eq_none (by simp; omega)]
    unfold selS
    simp only
    rw [hwl, hp1, if_pos (by omega), Int.toNat_natCast, abvP_get hp2, h1, e9, List.map_append]
    rfl
end
end Go.Ped
namespace Go.Ped
open Go Go.Eng Go.Maps Go.Sort
abbrev bdy (r : Rul) : List Ltr := r.body.filter isAtm
theorem mem_edges {rs : List Rul} {e : Edg} : e ∈ edgesF rs ↔ ∃ (i : Nat) (r : Rul), rs[i]? = some r ∧ ∃ y ∈ bdy r, e = edgOf r.pred (kindOf r) i y := by
  unfold edgesF edgesR
  rw [List.mem_flatMap]
  constructor
  · rintro ⟨⟨r, i⟩, hp, he⟩
    obtain ⟨y, hy, rfl⟩ := List.mem_map.1 he
    exact ⟨i, r, List.mk_mem_zipIdx_iff_getElem?.1 hp, y, hy, rfl⟩
  · rintro ⟨i, r, hr, y, hy, rfl⟩
    exact ⟨(r, i), List.mk_mem_zipIdx_iff_getElem?.2 hr, List.mem_map_of_mem hy⟩
theorem gSuc_rule (g : Gm) (r : Rul) (q : ByteArray) : gSuc (gRule g r) q = gSuc g q ++ (if q = r.pred then (bdy r).map (fun y => y.atom.pred) else []) := by
  unfold gRule fld
  rw [fold_suc, gSuc_key]
theorem gSuc_draw (q : ByteArray) : ∀ (rs : List Rul) (g : Gm), gSuc (rs.foldl gRule g) q = gSuc g q ++ rs.flatMap (fun r => if q = r.pred then (bdy r).map (fun y => y.atom.pred) else [])
  | [], g => by simp
  | r :: rs, g => by rw [List.foldl_cons, gSuc_draw q rs, gSuc_rule, List.flatMap_cons, List.append_assoc]
theorem mem_suc {rs : List Rul} {x t : ByteArray} : t ∈ gSuc (drawF rs) x ↔ ∃ e ∈ edgesF rs, e.frm = x ∧ e.to = t := by
  unfold drawF
  rw [gSuc_draw]
  show t ∈ [] ++ _ ↔ _
  rw [List.nil_append, List.mem_flatMap]
  constructor
  · rintro ⟨r, hr, ht⟩
    split at ht
    · rename_i hx
      obtain ⟨y, hy, rfl⟩ := List.mem_map.1 ht
      obtain ⟨i, hi⟩ := List.getElem?_of_mem hr
      exact ⟨edgOf r.pred (kindOf r) i y, mem_edges.2 ⟨i, r, hi, y, hy, rfl⟩, hx.symm, rfl⟩
    · cases ht
  · rintro ⟨e, he, rfl, rfl⟩
    obtain ⟨i, r, hi, y, hy, rfl⟩ := mem_edges.1 he
    exact ⟨r, List.mem_of_getElem? hi, by rw [if_pos (show (edgOf r.pred (kindOf r) i y).frm = r.pred from rfl)]; exact List.mem_map_of_mem (f := fun y : Ltr => y.atom.pred) hy⟩
theorem gHas_fold (p q : ByteArray) : ∀ (ys : List Ltr) (g : Gm), (mget g p).isSome = true → ((mget (ys.foldl (gStep p) g) q).isSome = true ↔ (mget g q).isSome = true ∨ ∃ y ∈ ys, y.atom.pred = q)
  | [], g, _ => by simp
  | y :: ys, g, h => by
    rw [List.foldl_cons, gHas_fold p q ys _ (by rw [gHas_step]; simp), gHas_step]
    simp only [Bool.or_eq_true, decide_eq_true_eq, List.mem_cons]
    constructor
    · rintro ((rfl | rfl | h1) | ⟨z, hz, h1⟩)
      · exact .inr ⟨y, .inl rfl, rfl⟩
      · exact .inl h
      · exact .inl h1
      · exact .inr ⟨z, .inr hz, h1⟩
    · rintro (h1 | ⟨z, rfl | hz, h1⟩)
      · exact .inl (.inr (.inr h1))
      · exact .inl (.inl h1.symm)
      · exact .inr ⟨z, hz, h1⟩
theorem gHas_rule (g : Gm) (r : Rul) (q : ByteArray) : (mget (gRule g r) q).isSome = true ↔ (mget g q).isSome = true ∨ q = r.pred ∨ ∃ y ∈ bdy r, y.atom.pred = q := by
  unfold gRule fld
  rw [gHas_fold _ _ _ _ (by rw [gHas_key]; simp), gHas_key]
  simp only [Bool.or_eq_true, decide_eq_true_eq]
  constructor
  · rintro ((h | h) | h)
    · exact .inr (.inl h)
    · exact .inl h
    · exact .inr (.inr h)
  · rintro (h | h | h)
    · exact .inl (.inr h)
    · exact .inl (.inl h)
    · exact .inr h
theorem gHas_draw (q : ByteArray) : ∀ (rs : List Rul) (g : Gm), (mget (rs.foldl gRule g) q).isSome = true ↔ (mget g q).isSome = true ∨ ∃ r ∈ rs, q = r.pred ∨ ∃ y ∈ bdy r, y.atom.pred = q
  | [], g => by simp
  | r :: rs, g => by
    rw [List.foldl_cons, gHas_draw q rs, gHas_rule]
    constructor
    · rintro ((h | h) | ⟨z, hz, h⟩)
      · exact .inl h
      · exact .inr ⟨r, by simp, h⟩
      · exact .inr ⟨z, by simp [hz], h⟩
    · rintro (h | ⟨z, hz, h⟩)
      · exact .inl (.inl h)
      · rcases List.mem_cons.1 hz with rfl | hz
        · exact .inl (.inr h)
        · exact .inr ⟨z, hz, h⟩
theorem mem_names {rs : List Rul} {q : ByteArray} : q ∈ (drawF rs).map Prod.fst ↔ ∃ r ∈ rs, q = r.pred ∨ ∃ y ∈ bdy r, y.atom.pred = q := by
  have h := gHas_draw q rs []
  rw [mget_mem] at h
  show q ∈ (rs.foldl gRule []).map Prod.fst ↔ _
  rw [h]; simp [mget_nil]
theorem draw_closed {rs : List Rul} : ∀ s ∈ (drawF rs).map Prod.fst, ∀ t ∈ gSuc (drawF rs) s, t ∈ (drawF rs).map Prod.fst := by
  intro s _ t ht
  obtain ⟨e, he, _, rfl⟩ := mem_suc.1 ht
  obtain ⟨i, r, hi, y, hy, rfl⟩ := mem_edges.1 he
  exact mem_names.2 ⟨r, List.mem_of_getElem? hi, .inr ⟨y, hy, rfl⟩⟩
theorem gKey_nodup {g : Gm} {k : ByteArray} (h : (g.map Prod.fst).Nodup) : ((gKey g k).map Prod.fst).Nodup := by
  unfold gKey; split
  · exact h
  · exact mset_nodup h
theorem gRule_nodup {g : Gm} {r : Rul} (h : (g.map Prod.fst).Nodup) : ((gRule g r).map Prod.fst).Nodup := by
  unfold gRule fld
  have : ∀ (ys : List Ltr) (g : Gm), (g.map Prod.fst).Nodup → ((ys.foldl (gStep r.pred) g).map Prod.fst).Nodup := by
    intro ys
    induction ys with
    | nil => intro g h; exact h
    | cons y ys ih => intro g h; exact ih _ (gKey_nodup (mset_nodup h))
  exact this _ _ (gKey_nodup h)
theorem draw_nodup (rs : List Rul) : ((drawF rs).map Prod.fst).Nodup := by
  have : ∀ (rs : List Rul) (g : Gm), (g.map Prod.fst).Nodup → ((rs.foldl gRule g).map Prod.fst).Nodup := by
    intro rs
    induction rs with
    | nil => intro g h; exact h
    | cons r rs ih => intro g h; exact ih _ (gRule_nodup h)
  exact this rs [] List.Pairwise.nil
theorem draw_size (rs : List Rul) : (drawF rs).length ≤ rs.length + (rs.flatMap Rul.body).length := by
  have h := nd_le (N := rs.map Rul.pred ++ (rs.flatMap Rul.body).map (fun y => y.atom.pred)) (draw_nodup rs) (fun q hq => by
    obtain ⟨r, hr, h⟩ := mem_names.1 hq
    rw [List.mem_append]
    rcases h with rfl | ⟨y, hy, rfl⟩
    · exact .inl (List.mem_map_of_mem hr)
    · exact .inr (List.mem_map_of_mem (List.mem_flatMap.2 ⟨r, hr, (List.mem_filter.1 hy).1⟩)))
  simpa using h
/-- Rules whose names may be put in order. -/
structure NOk (rs : List Rul) : Prop where
  p : ∀ r ∈ rs, r.pred.size ≤ maxLen ∧ ∀ y ∈ r.body, y.atom.pred.size ≤ maxLen
  n : rs.length + (rs.flatMap Rul.body).length < 2097152
theorem NOk.g {rs : List Rul} (h : NOk rs) : GOk (drawF rs) := by
  refine ⟨fun k hk => ?_, draw_nodup rs, Nat.lt_of_le_of_lt (draw_size rs) h.n⟩
  obtain ⟨r, hr, hq⟩ := mem_names.1 hk
  rcases hq with rfl | ⟨y, hy, rfl⟩
  · exact (h.p r hr).1
  · exact (h.p r hr).2 y (List.mem_filter.1 hy).1
/-! levels -/
abbrev stI (e : Edg) : Int := if e.kind = 1 then 0 else 1
structure Sol (es : List Edg) (f : ByteArray → Int) : Prop where
  pos : ∀ x, 0 ≤ f x
  ok : ∀ e ∈ es, f e.to + stI e ≤ f e.frm
structure Good (es : List Edg) (n : Li) : Prop where
  pos : ∀ x, 0 ≤ iget n x
  le : ∀ f, Sol es f → ∀ x, iget n x ≤ f x
def mu (es : List Edg) (f : ByteArray → Int) : Int := (es.map fun e => f e.frm).sum
theorem mu_le {f g : ByteArray → Int} (h : ∀ x, f x ≤ g x) : ∀ es : List Edg, mu es f ≤ mu es g
  | [] => by simp [mu]
  | e :: es => by
    have := mu_le h es
    have := h e.frm
    simp only [mu, List.map_cons, List.sum_cons] at *; omega
theorem mu_lt {f g : ByteArray → Int} (h : ∀ x, f x ≤ g x) : ∀ {es : List Edg} {e : Edg}, e ∈ es → f e.frm < g e.frm → mu es f < mu es g
  | [], e, he, _ => by cases he
  | d :: es, e, he, hlt => by
    have h1 := h d.frm
    rcases List.mem_cons.1 he with rfl | he
    · have := mu_le h es
      simp only [mu, List.map_cons, List.sum_cons] at *; omega
    · have := mu_lt h he hlt
      simp only [mu, List.map_cons, List.sum_cons] at *; omega
theorem iget_mset (m : Li) (k q : ByteArray) (v : Int) : iget (mset m k v) q = if q = k then v else iget m q := by
  unfold iget
  rw [mget_mset]
  split <;> rfl
section
variable {es : List Edg} {b : ByteArray → Int}
theorem lv_fold (hb : Sol es b) (hb2 : ∀ x, b x < 1000000000) : ∀ (ts : List Edg) (n : Li) (r : Bool), (∀ e ∈ ts, e ∈ es) → Good es n →
    ∃ n' r', ts.foldlM lvStep (n, r) = some (n', r') ∧ Good es n' ∧ (∀ x, iget n x ≤ iget n' x) ∧ (r = true → r' = true) ∧ (r' = false → n' = n ∧ ∀ e ∈ ts, iget n e.to + stI e ≤ iget n e.frm) ∧ (r = false → r' = true → mu es (iget n) < mu es (iget n'))
  | [], n, r, _, h => ⟨n, r, rfl, h, fun _ => Int.le_refl _, fun h => h, fun _ => ⟨rfl, fun e he => by cases he⟩, fun h1 h2 => by rw [h1] at h2; cases h2⟩
  | e :: ts, n, r, hts, h => by
    have he := hts e (by simp)
    have h0 := h.pos e.to
    have h1 : iget n e.to < 1000000000 := Int.lt_of_le_of_lt (h.le b hb e.to) (hb2 _)
    have hw : (if e.kind = 1 then iget n e.to else iget n e.to + 1) = iget n e.to + stI e := by unfold stI; split <;> omega
    by_cases hc : iget n e.frm < iget n e.to + stI e
    · have e1 : lvStep (n, r) e = some (mset n e.frm (iget n e.to + stI e), true) := by
        unfold lvStep
        simp only
        rw [if_pos ⟨h0, h1⟩, hw, if_pos hc]
      have hg : Good es (mset n e.frm (iget n e.to + stI e)) := by
        refine ⟨fun x => ?_, fun f hf x => ?_⟩
        · rw [iget_mset]; split
          · have : 0 ≤ stI e := by unfold stI; split <;> omega
            omega
          · exact h.pos x
        · rw [iget_mset]; split
          · rename_i hx; subst hx
            have := hf.ok e he; have := h.le f hf e.to; omega
          · exact h.le f hf x
      have hm : ∀ x, iget n x ≤ iget (mset n e.frm (iget n e.to + stI e)) x := by
        intro x
        rw [iget_mset]; split
        · rename_i hx; subst hx; omega
        · exact Int.le_refl _
      obtain ⟨n', r', g1, g2, g3, g4, g5, g6⟩ := lv_fold hb hb2 ts (mset n e.frm (iget n e.to + stI e)) true (fun d hd => hts d (by simp [hd])) hg
      have hr : r' = true := g4 rfl
      refine ⟨n', r', ?_, g2, fun x => Int.le_trans (hm x) (g3 x), fun _ => hr, fun h => (by rw [hr] at h; cases h), fun _ _ => ?_⟩
      · rw [List.foldlM_cons, e1]; exact g1
      · refine Int.lt_of_lt_of_le (mu_lt hm he ?_) (mu_le g3 es)
        rw [iget_mset, if_pos rfl]; exact hc
    · have e1 : lvStep (n, r) e = some (n, r) := by
        unfold lvStep
        simp only
        rw [if_pos ⟨h0, h1⟩, hw, if_neg hc]
      obtain ⟨n', r', g1, g2, g3, g4, g5, g6⟩ := lv_fold hb hb2 ts n r (fun d hd => hts d (by simp [hd])) h
      refine ⟨n', r', ?_, g2, g3, g4, fun hr => ⟨(g5 hr).1, fun d hd => ?_⟩, g6⟩
      · rw [List.foldlM_cons, e1]; exact g1
      · rcases List.mem_cons.1 hd with rfl | hd
        · omega
        · exact (g5 hr).2 d hd
theorem lv_run (hb : Sol es b) (hb2 : ∀ x, b x < 1000000000) : ∀ (k : Nat) (n : Li), Good es n → mu es b - mu es (iget n) < (k : Int) → ∃ fin, lvRun k es n = some fin ∧ Good es fin ∧ ∀ e ∈ es, iget fin e.to + stI e ≤ iget fin e.frm
  | 0, n, h, hk => by have := mu_le (h.le b hb) es; omega
  | k + 1, n, h, hk => by
    obtain ⟨n', r', g1, g2, g3, g4, g5, g6⟩ := lv_fold hb hb2 es n false (fun _ h => h) h
    cases r' with
    | false =>
      obtain ⟨rfl, h2⟩ := g5 rfl
      refine ⟨n', ?_, g2, h2⟩
      unfold lvRun
      rw [g1]; rfl
    | true =>
      have := g6 rfl rfl
      obtain ⟨fin, h1, h2, h3⟩ := lv_run hb hb2 k n' g2 (by omega)
      refine ⟨fin, ?_, h2, h3⟩
      unfold lvRun
      rw [g1]; exact h1
end
/-- The least levels. -/
structure Lev (es : List Edg) (f : ByteArray → Int) : Prop where
  sol : Sol es f
  least : ∀ h, Sol es h → ∀ x, f x ≤ h x
theorem Lev.uniq {es : List Edg} {f g : ByteArray → Int} (h : Lev es f) (k : Lev es g) : f = g := by
  funext x
  exact Int.le_antisymm (h.least g k.sol x) (k.least f h.sol x)
section
variable {rs : List Rul} {σ : TS}
theorem inn_edge (ok : PartsOk (drawF rs) σ) {e : Edg} (he : e ∈ edgesF rs) : ∃ i j : Int, mget σ.inn e.frm = some i ∧ mget σ.inn e.to = some j ∧ j ≤ i ∧ 0 ≤ j ∧ i < (σ.out.length : Int) ∧ (j = i ↔ Rch (gSuc (drawF rs)) e.to e.frm) := by
  have hsuc : e.to ∈ gSuc (drawF rs) e.frm := mem_suc.2 ⟨e, he, rfl, rfl⟩
  have hn : e.frm ∈ (drawF rs).map Prod.fst := by
    obtain ⟨i, r, hi, y, hy, rfl⟩ := mem_edges.1 he
    exact mem_names.2 ⟨r, List.mem_of_getElem? hi, .inl rfl⟩
  obtain ⟨i, hi⟩ := ok.all _ hn
  obtain ⟨j, hj, hle⟩ := ok.out3 _ _ hi _ (Rch.one hsuc)
  obtain ⟨a, p, rfl, hp, hfp⟩ := ok.out2 _ _ hi
  obtain ⟨c, q, rfl, hq, htq⟩ := ok.out2 _ _ hj
  have hl := (List.getElem?_eq_some_iff.1 hp).1
  refine ⟨a, c, hi, hj, hle, by omega, by omega, ?_⟩
  constructor
  · intro e1
    have e1 : c = a := by omega
    subst e1
    rw [hp] at hq
    cases hq
    exact (((ok.out1 _ _ hp).2.2.2 _ htq).2 _).2 hfp |>.1
  · intro hr
    have h1 := (((ok.out1 _ _ hp).2.2.2 _ hfp).2 e.to).1 ⟨Rch.one hsuc, hr⟩
    have h2 := ((ok.out1 _ _ hp).2.2.2 _ h1).1
    rw [hj] at h2
    exact Option.some.inj h2
theorem blB_iff (ok : PartsOk (drawF rs) σ) {e : Edg} (he : e ∈ edgesF rs) : blB σ.inn e = true ↔ e.kind ≠ 1 ∧ Rch (gSuc (drawF rs)) e.to e.frm := by
  obtain ⟨i, j, h1, h2, h3, h4, h5, h6⟩ := inn_edge ok he
  unfold blB iget
  rw [h1, h2, ← h6]
  simp only [Option.getD_some, Bool.and_eq_true, decide_eq_true_eq]
  constructor
  · rintro ⟨a, b⟩; exact ⟨a, b.symm⟩
  · rintro ⟨a, b⟩; exact ⟨a, b.symm⟩
theorem lev_ok (hn : NOk rs) (ok : PartsOk (drawF rs) σ) (hb : (edgesF rs).find? (blB σ.inn) = none) : ∃ K fin, lvRun K (edgesF rs) [] = some fin ∧ Lev (edgesF rs) (iget fin) := by
  have hs : Sol (edgesF rs) (fun x => iget σ.inn x) := by
    refine ⟨fun x => ?_, fun e he => ?_⟩
    · unfold iget
      cases h : mget σ.inn x with
      | none => simp
      | some n => obtain ⟨i, p, rfl, _⟩ := ok.out2 x n h; simp
    · obtain ⟨i, j, h1, h2, h3, h4, h5, h6⟩ := inn_edge ok he
      have hbe := List.find?_eq_none.1 hb e he
      unfold blB at hbe
      show iget σ.inn e.to + stI e ≤ iget σ.inn e.frm
      unfold iget at hbe ⊢
      rw [h1, h2] at hbe ⊢
      simp only [Option.getD_some, Bool.and_eq_true, decide_eq_true_eq] at hbe ⊢
      unfold stI
      split
      · omega
      · rename_i hk
        have : ¬ i = j := fun e => hbe ⟨hk, e⟩
        omega
  have hs2 : ∀ x, iget σ.inn x < 1000000000 := by
    intro x
    unfold iget
    cases h : mget σ.inn x with
    | none => simp
    | some n =>
      obtain ⟨i, p, rfl, hp, _⟩ := ok.out2 x n h
      have h1 := (List.getElem?_eq_some_iff.1 hp).1
      have h2 := ok.len
      have h3 := hn.g.len
      simp only [Option.getD_some]; omega
  have h0 : Good (edgesF rs) [] := ⟨fun x => by simp [iget, mget_nil], fun f hf x => by have := hf.pos x; simpa [iget, mget_nil] using this⟩
  obtain ⟨fin, h1, h2, h3⟩ := lv_run hs hs2 ((mu (edgesF rs) (iget σ.inn) - mu (edgesF rs) (iget [])).toNat + 1) [] h0 (by show mu (edgesF rs) (iget σ.inn) - _ < _; omega)
  exact ⟨_, fin, h1, ⟨⟨h2.pos, h3⟩, h2.le⟩⟩
end
end Go.Ped
namespace Go.Ped
open Go Go.Eng Go.Maps Go.Sort
/-- The parts, from below, among those that may stand the one with the least name. -/
structure PO (G : ByteArray → List ByteArray) (N : List ByteArray) (o : List (List ByteArray)) : Prop where
  cls : ∀ p ∈ o, p ≠ [] ∧ p.Nodup ∧ p.Pairwise (fun a b => leS a b = true) ∧ ∀ x ∈ p, ∀ y, (Rch G x y ∧ Rch G y x) ↔ y ∈ p
  all : ∀ x, x ∈ N ↔ ∃ p ∈ o, x ∈ p
  dis : ∀ (i j : Nat) p q x, o[i]? = some p → o[j]? = some q → x ∈ p → x ∈ q → i = j
  ord : ∀ (i : Nat) p x y, o[i]? = some p → x ∈ p → Rch G x y → ∃ (j : Nat) (q : List ByteArray), j ≤ i ∧ o[j]? = some q ∧ y ∈ q
  least : ∀ (i j : Nat) p q, o[i]? = some p → o[j]? = some q → i ≤ j → (∀ x ∈ q, ∀ y, Rch G x y → y ∈ q ∨ ∃ (k : Nat) (r : List ByteArray), k < i ∧ o[k]? = some r ∧ y ∈ r) → ltS (hdS q) (hdS p) = false
theorem beg_all {g : Gm} {σ : TS} (ok : PartsOk g σ) (hg : g.length < 2097152) (hcl : ∀ s ∈ g.map Prod.fst, ∀ t ∈ gSuc g s, t ∈ g.map Prod.fst) : ∀ (k : Nat), k ≤ σ.out.length → ∃ C, C.length = k ∧ Beg g σ C ∧
    (List.range k).foldlM (selS σ.out (abvP (lwAt g σ) σ.out.length σ.out.length)) ⟨(List.range σ.out.length).map (wL g σ []), []⟩ = some ⟨(List.range σ.out.length).map (wL g σ C), C.map fun i => (σ.out[i]?).getD []⟩
  | 0, _ => ⟨[], rfl, ⟨List.Pairwise.nil, fun c h => (by cases h), fun i c h => (by simp at h), fun i c h => (by simp at h)⟩, rfl⟩
  | k + 1, hk => by
    obtain ⟨C, h1, h2, h3⟩ := beg_all ok hg hcl k (by omega)
    obtain ⟨nx, h4, h5⟩ := sel_ok ok hg hcl h2 (by omega) k
    refine ⟨C ++ [nx], by simp [h1], h4, ?_⟩
    rw [List.range_succ, List.foldlM_append, h3]
    simp only [Option.bind_eq_bind, Option.bind_some, List.foldlM_cons, List.foldlM_nil, h5]
    rfl
theorem parts_all {g : Gm} (ok0 : GOk g) (hcl : ∀ s ∈ g.map Prod.fst, ∀ t ∈ gSuc g s, t ∈ g.map Prod.fst) : ∃ o, partsO g = some o ∧ PO (gSuc g) (g.map Prod.fst) o := by
  obtain ⟨σ, hσ, ok⟩ := parts_ok ok0 hcl
  have hg := ok0.len
  obtain ⟨C, hC1, hC, hf⟩ := beg_all ok hg hcl σ.out.length (Nat.le_refl _)
  have hw : okW g σ = true := by
    unfold okW
    rw [Bool.and_eq_true, List.all_eq_true, List.all_eq_true]
    refine ⟨fun p hp => ?_, fun i hi => ?_⟩
    · obtain ⟨i, hi⟩ := List.getElem?_of_mem hp
      exact decide_eq_true (ok.out1 i p hi).1
    · rw [List.all_eq_true]
      intro p hp
      have hi := List.mem_range.1 hi
      obtain ⟨j, hj, hlt⟩ := ok.succ hcl (List.mem_map_of_mem (f := Prod.fst) hp)
      rw [hj]
      simp only [Bool.and_eq_true, decide_eq_true_eq]; omega
  have hz : waitP (fun i => (lwAt g σ i).length) σ.out.length σ.out.length = (List.range σ.out.length).map (wL g σ []) := by
    unfold waitP
    refine List.map_congr_left (fun j hj => ?_)
    have hj := List.mem_range.1 hj
    rw [if_pos hj]
    unfold wL
    rw [if_neg (by simp), List.filter_eq_self.2 (by simp), List.length_map]
  have hall : ∀ i, i < σ.out.length → i ∈ C := by
    intro i hi
    apply Classical.byContradiction
    intro hn
    have h1 := nd_le (l := i :: C) (N := List.range σ.out.length) (List.nodup_cons.2 ⟨hn, hC.nod⟩) (fun x hx => by
      rcases List.mem_cons.1 hx with rfl | hx
      · exact List.mem_range.2 hi
      · exact List.mem_range.2 (hC.lt x hx))
    rw [List.length_range, List.length_cons] at h1; omega
  have hget : ∀ (i : Nat) p, (C.map fun i => (σ.out[i]?).getD [])[i]? = some p → ∃ c : Nat, C[i]? = some c ∧ σ.out[c]? = some p := by
    intro i p hp
    rw [List.getElem?_map] at hp
    cases hc : C[i]? with
    | none => rw [hc] at hp; cases hp
    | some c =>
      rw [hc] at hp
      have hl := hC.lt c (List.mem_of_getElem? hc)
      refine ⟨c, rfl, ?_⟩
      have hp : some ((σ.out[c]?).getD []) = some p := hp
      rw [List.getElem?_eq_getElem hl] at hp ⊢
      exact hp
  have hput : ∀ (i c : Nat) p, C[i]? = some c → σ.out[c]? = some p → (C.map fun i => (σ.out[i]?).getD [])[i]? = some p := by
    intro i c p hc hp
    rw [List.getElem?_map, hc]
    show some ((σ.out[c]?).getD []) = _
    rw [hp]; rfl
  have hidx : ∀ (c : Nat) i, c ∈ C.take i → ∃ k : Nat, k < i ∧ C[k]? = some c := by
    intro c i hm
    obtain ⟨k, hk⟩ := List.getElem?_of_mem hm
    have hkl := (List.getElem?_eq_some_iff.1 hk).1
    rw [List.length_take] at hkl
    rw [List.getElem?_take_of_lt (by omega)] at hk
    exact ⟨k, by omega, hk⟩
  have hinj : ∀ (i j c : Nat), C[i]? = some c → C[j]? = some c → i = j := by
    intro i j c hi hj
    obtain ⟨a1, a2⟩ := List.getElem?_eq_some_iff.1 hi
    obtain ⟨b1, b2⟩ := List.getElem?_eq_some_iff.1 hj
    have hp := List.pairwise_iff_getElem.1 hC.nod
    rcases Nat.lt_trichotomy i j with h | h | h
    · exact absurd (a2.trans b2.symm) (hp i j a1 b1 h)
    · exact h
    · exact absurd (b2.trans a2.symm) (hp j i b1 a1 h)
  have hnum : ∀ (c : Nat) p x, σ.out[c]? = some p → x ∈ p → mget σ.inn x = some (c : Int) := fun c p x hp hx => ((ok.out1 c p hp).2.2.2 x hx).1
  have hone : ∀ (c d : Nat) p q x, σ.out[c]? = some p → σ.out[d]? = some q → x ∈ p → x ∈ q → c = d := by
    intro c d p q x hp hq h1 h2
    have := (hnum c p x hp h1).symm.trans (hnum d q x hq h2)
    have := Option.some.inj this
    omega
  refine ⟨C.map fun i => (σ.out[i]?).getD [], ?_, ?_, ?_, ?_, ?_, ?_⟩
  · unfold partsO
    rw [hσ]
    show (if okW g σ = true then _ else none) = _
    rw [if_pos hw, hz, hf]; rfl
  · intro p hp
    obtain ⟨i, hi⟩ := List.getElem?_of_mem hp
    obtain ⟨c, _, h2⟩ := hget i p hi
    obtain ⟨a, b, d, e⟩ := ok.out1 c p h2
    exact ⟨a, b, d, fun x hx => (e x hx).2⟩
  · intro x
    constructor
    · intro hx
      obtain ⟨n, hn⟩ := ok.all x hx
      obtain ⟨c, p, _, hp, hxp⟩ := ok.out2 x n hn
      obtain ⟨i, hi⟩ := List.getElem?_of_mem (hall c (List.getElem?_eq_some_iff.1 hp).1)
      exact ⟨p, List.mem_of_getElem? (hput i c p hi hp), hxp⟩
    · rintro ⟨p, hp, hx⟩
      obtain ⟨i, hi⟩ := List.getElem?_of_mem hp
      obtain ⟨c, _, h2⟩ := hget i p hi
      exact ok.only x _ (hnum c p x h2 hx)
  · intro i j p q x hi hj hx hy
    obtain ⟨c, h1, h2⟩ := hget i p hi
    obtain ⟨d, h3, h4⟩ := hget j q hj
    have := hone c d p q x h2 h4 hx hy
    subst this
    exact hinj i j c h1 h3
  · intro i p x y hi hx hr
    obtain ⟨c, h1, h2⟩ := hget i p hi
    have := Rch.closed (G := gSuc g) (p := fun z => ∃ (j d : Nat) (q : List ByteArray), j ≤ i ∧ C[j]? = some d ∧ σ.out[d]? = some q ∧ z ∈ q) ?_ hr ⟨i, c, p, Nat.le_refl _, h1, h2, hx⟩
    · obtain ⟨j, d, q, a, b, e, f⟩ := this
      exact ⟨j, q, a, hput j d q b e, f⟩
    · rintro z ⟨j, d, q, a, b, e, f⟩ t ht
      obtain ⟨m, hm, hle⟩ := ok.out3 z _ (hnum d q z e f) t (Rch.one ht)
      obtain ⟨d', q', rfl, e', f'⟩ := ok.out2 t m hm
      by_cases hd : d' = d
      · subst hd
        rw [e] at e'; cases e'
        exact ⟨j, d', q, a, b, e, f'⟩
      · have hl : Lwr g σ d d' := by
          unfold Lwr lwAt
          rw [e]
          exact lw_mem.2 ⟨z, f, t, ht, ok.iget hm, by omega⟩
        obtain ⟨k, hk1, hk2⟩ := hidx d' j (hC.low j d b d' hl)
        exact ⟨k, d', q', by omega, hk2, e', f'⟩
  · intro i j p q hi hj hij hc
    obtain ⟨c, h1, h2⟩ := hget i p hi
    obtain ⟨d, h3, h4⟩ := hget j q hj
    have := hC.least i c h1 d (List.getElem?_eq_some_iff.1 h4).1 (fun hm => by
      obtain ⟨k, hk1, hk2⟩ := hidx d i hm
      have := hinj k j d hk2 h3
      omega) (fun e he => by
      unfold Lwr lwAt at he
      rw [h4] at he
      obtain ⟨s, hs, t, ht, h5, h6⟩ := lw_mem.1 he
      have hs : s ∈ q := hs
      rcases hc s hs t (Rch.one ht) with h7 | ⟨k, r, h7, h8, h9⟩
      · have := ok.iget (hnum d q t h4 h7)
        omega
      · obtain ⟨c', h10, h11⟩ := hget k r h8
        have := ok.iget (hnum c' r t h11 h9)
        have e1 : c' = e := by omega
        subst e1
        have hl : k < C.length := (List.getElem?_eq_some_iff.1 h10).1
        exact List.mem_of_getElem? (i := k) (by rw [List.getElem?_take_of_lt h7]; exact h10))
    unfold hdP at this
    rw [h2, h4] at this
    exact this
end Go.Ped
namespace Go.Ped
open Go Go.Eng Go.Maps Go.Sort
theorem Lev.reason {es : List Edg} {f : ByteArray → Int} (h : Lev es f) {s : ByteArray} (hs : 0 < f s) (S : ByteArray → Prop) (h0 : S s) (hl : ∀ x, S x → f x = f s) (hc : ∀ e ∈ es, S e.frm → f e.to = f s → S e.to) : ∃ e ∈ es, S e.frm ∧ f e.to = f s - 1 ∧ e.kind ≠ 1 := by
  apply Classical.byContradiction
  intro hno
  have hno : ∀ e ∈ es, S e.frm → f e.to = f s - 1 → e.kind = 1 := fun e he h1 h2 => Classical.not_not.1 fun h3 => hno ⟨e, he, h1, h2, h3⟩
  have key : Sol es (fun x => @ite _ (S x) (Classical.propDecidable _) (f x - 1) (f x)) := by
    refine ⟨fun x => ?_, fun e he => ?_⟩
    · show 0 ≤ @ite _ (S x) (Classical.propDecidable _) (f x - 1) (f x)
      split
      · rename_i hx; have := hl x hx; omega
      · exact h.sol.pos x
    · show @ite _ (S e.to) (Classical.propDecidable _) (f e.to - 1) (f e.to) + stI e ≤ @ite _ (S e.frm) (Classical.propDecidable _) (f e.frm - 1) (f e.frm)
      have h1 := h.sol.ok e he
      have h2 : 0 ≤ stI e ∧ stI e ≤ 1 := by unfold stI; split <;> omega
      by_cases hf : S e.frm
      · have h3 := hl _ hf
        by_cases ht : S e.to
        · have h4 := hl _ ht
          rw [if_pos hf, if_pos ht]; omega
        · rw [if_pos hf, if_neg ht]
          have h4 : f e.to ≠ f s := fun h5 => ht (hc e he hf h5)
          by_cases h5 : f e.to = f s - 1
          · have : stI e = 0 := by unfold stI; rw [if_pos (hno e he hf h5)]
            omega
          · omega
      · rw [if_neg hf]
        split <;> omega
  have h1 : f s ≤ @ite _ (S s) (Classical.propDecidable _) (f s - 1) (f s) := h.least _ key s
  rw [if_pos h0] at h1
  omega
end Go.Ped
namespace Go.Ped
open Go Go.Eng Go.Maps Go.Sort
abbrev Se := List (ByteArray × Unit)
abbrev sk (m : Se) : List ByteArray := m.map Prod.fst
theorem sum_zero {α : Type} : ∀ l : List α, (l.map fun _ => 0).sum = 0
  | [] => rfl
  | _ :: l => by rw [List.map_cons, List.sum_cons, sum_zero l]
theorem sum_one {c : Nat} {q : ByteArray} : ∀ {l : List ByteArray}, l.Nodup → (l.map fun x => if x = q then c else 0).sum ≤ c
  | [], _ => by simp
  | x :: l, h => by
    have h' := List.nodup_cons.1 h
    rw [List.map_cons, List.sum_cons]
    by_cases e : x = q
    · subst e
      have : (l.map fun y => if y = x then c else 0) = l.map fun _ => 0 := List.map_congr_left (fun y hy => by rw [if_neg]; intro e; subst e; exact h'.1 hy)
      rw [if_pos rfl, this, sum_zero]; exact Nat.le_refl _
    · rw [if_neg e]
      have := sum_one (c := c) (q := q) h'.2; omega
theorem sum_add {α : Type} (f g : α → Nat) : ∀ l : List α, (l.map fun x => f x + g x).sum = (l.map f).sum + (l.map g).sum
  | [] => rfl
  | x :: l => by simp only [List.map_cons, List.sum_cons, sum_add f g l]; omega
theorem suc_sum (rs : List Rul) {l : List ByteArray} (h : l.Nodup) : (l.map fun x => (gSuc (drawF rs) x).length).sum ≤ (rs.flatMap Rul.body).length := by
  have : ∀ rs : List Rul, (l.map fun x => (rs.flatMap (fun r => if x = r.pred then (bdy r).map (fun y => y.atom.pred) else [])).length).sum ≤ (rs.flatMap Rul.body).length := by
    intro rs
    induction rs with
    | nil => simp [sum_zero]
    | cons r rs ih =>
      have e : (l.map fun x => ((r :: rs).flatMap (fun r => if x = r.pred then (bdy r).map (fun y => y.atom.pred) else [])).length) = l.map fun x => (if x = r.pred then (bdy r).length else 0) + (rs.flatMap (fun r => if x = r.pred then (bdy r).map (fun y => y.atom.pred) else [])).length := by
        refine List.map_congr_left (fun x _ => ?_)
        rw [List.flatMap_cons, List.length_append]
        split <;> simp
      rw [e, sum_add, List.flatMap_cons, List.length_append]
      have h1 := sum_one (c := (bdy r).length) (q := r.pred) h
      have h2 : (bdy r).length ≤ r.body.length := List.length_filter_le _ _
      omega
  have e : (l.map fun x => (gSuc (drawF rs) x).length) = l.map fun x => (rs.flatMap (fun r => if x = r.pred then (bdy r).map (fun y => y.atom.pred) else [])).length := by
    refine List.map_congr_left (fun x _ => ?_)
    unfold drawF
    rw [gSuc_draw]
    rfl
  rw [e]; exact this rs
/-- Between two steps of the search. -/
structure RI (rs : List Rul) (F : List ByteArray) (m : Se) (l : List ByteArray) : Prop where
  nod : (sk m).Nodup
  from_ : ∀ x, x ∈ sk m ∨ x ∈ l → ∃ f ∈ F, Rch (gSuc (drawF rs)) f x
  in_ : ∀ x, x ∈ sk m ∨ x ∈ l → x ∈ F ++ (drawF rs).map Prod.fst
  suc : ∀ x ∈ sk m, ∀ t ∈ gSuc (drawF rs) x, t ∈ sk m ∨ t ∈ l
  all : ∀ f ∈ F, f ∈ sk m ∨ f ∈ l
  len : l.length ≤ F.length + ((sk m).map fun x => (gSuc (drawF rs) x).length).sum
section
variable {rs : List Rul} {F : List ByteArray} {m : Se} {l : List ByteArray} {s : ByteArray}
theorem RI.start (rs : List Rul) (F : List ByteArray) : RI rs F [] F := by
  refine ⟨List.Pairwise.nil, fun x hx => ?_, fun x hx => ?_, fun x hx => (by cases hx), fun f hf => .inr hf, by simp⟩
  · rcases hx with hx | hx
    · cases hx
    · exact ⟨x, hx, .refl x⟩
  · rcases hx with hx | hx
    · cases hx
    · exact List.mem_append_left _ hx
theorem RI.old (h : RI rs F m (l ++ [s])) (hs : (mget m s).isSome = true) : RI rs F m l := by
  have hm : s ∈ sk m := mget_mem.1 hs
  have key : ∀ x, x ∈ sk m ∨ x ∈ l ++ [s] → x ∈ sk m ∨ x ∈ l := by
    rintro x (hx | hx)
    · exact .inl hx
    · rcases List.mem_append.1 hx with hx | hx
      · exact .inr hx
      · rw [List.mem_singleton.1 hx]; exact .inl hm
  have key2 : ∀ x, x ∈ sk m ∨ x ∈ l → x ∈ sk m ∨ x ∈ l ++ [s] := by
    rintro x (hx | hx)
    · exact .inl hx
    · exact .inr (List.mem_append_left _ hx)
  refine ⟨h.nod, fun x hx => h.from_ x (key2 x hx), fun x hx => h.in_ x (key2 x hx), fun x hx t ht => key t (h.suc x hx t ht), fun f hf => key f (h.all f hf), ?_⟩
  have := h.len; simp at this ⊢; omega
theorem RI.new (h : RI rs F m (l ++ [s])) (hs : (mget m s).isSome = false) : RI rs F (mset m s ()) (l ++ gSuc (drawF rs) s) := by
  have hm : ¬ s ∈ sk m := mget_not.1 hs
  have hk : sk (mset m s ()) = sk m ++ [s] := by show (mset m s ()).map Prod.fst = _; rw [mset_new hs, List.map_append]; rfl
  have hin : ∀ x, x ∈ sk m ∨ x ∈ l ++ [s] → x ∈ sk m ++ [s] ∨ x ∈ l ++ gSuc (drawF rs) s := by
    rintro x (hx | hx)
    · exact .inl (List.mem_append_left _ hx)
    · rcases List.mem_append.1 hx with hx | hx
      · exact .inr (List.mem_append_left _ hx)
      · exact .inl (List.mem_append_right _ hx)
  have hout : ∀ x, x ∈ sk m ++ [s] ∨ x ∈ l ++ gSuc (drawF rs) s → (x ∈ sk m ∨ x ∈ l ++ [s]) ∨ x ∈ gSuc (drawF rs) s := by
    rintro x (hx | hx)
    · rcases List.mem_append.1 hx with hx | hx
      · exact .inl (.inl hx)
      · exact .inl (.inr (List.mem_append_right _ hx))
    · rcases List.mem_append.1 hx with hx | hx
      · exact .inl (.inr (List.mem_append_left _ hx))
      · exact .inr hx
  refine ⟨?_, fun x hx => ?_, fun x hx => ?_, fun x hx t ht => ?_, fun f hf => ?_, ?_⟩
  · rw [hk, List.nodup_append]
    exact ⟨h.nod, by simp, fun a ha b hb e => hm (by rw [← List.mem_singleton.1 hb, ← e]; exact ha)⟩
  · rw [hk] at hx
    rcases hout x hx with hx | hx
    · exact h.from_ x hx
    · obtain ⟨f, hf, hr⟩ := h.from_ s (.inr (by simp))
      exact ⟨f, hf, hr.trans (Rch.one hx)⟩
  · rw [hk] at hx
    rcases hout x hx with hx | hx
    · exact h.in_ x hx
    · obtain ⟨e, he, h1, h2⟩ := mem_suc.1 hx
      obtain ⟨i, r, hi, y, hy, rfl⟩ := mem_edges.1 he
      exact List.mem_append_right _ (mem_names.2 ⟨r, List.mem_of_getElem? hi, .inr ⟨y, hy, h2⟩⟩)
  · rw [hk] at hx ⊢
    rcases List.mem_append.1 hx with hx | hx
    · exact hin t (h.suc x hx t ht)
    · rw [List.mem_singleton.1 hx] at ht; exact .inr (List.mem_append_right _ ht)
  · rw [hk]; exact hin f (h.all f hf)
  · rw [hk, List.map_append, List.sum_append]
    have := h.len
    simp at this ⊢; omega
theorem RI.lt (h : RI rs F m l) (hF : F.length < 4194304) (hB : (rs.flatMap Rul.body).length < 1048576) : l.length < 8388608 := by
  have h1 := h.len
  have h2 := suc_sum rs h.nod
  omega
theorem RI.le (h : RI rs F m l) : (sk m).length ≤ F.length + (drawF rs).length := by
  have := nd_le h.nod (fun x hx => h.in_ x (.inl hx))
  simpa using this
theorem RI.fin (h : RI rs F m []) (x : ByteArray) : x ∈ sk m ↔ ∃ f ∈ F, Rch (gSuc (drawF rs)) f x := by
  constructor
  · exact fun hx => h.from_ x (.inl hx)
  · rintro ⟨f, hf, hr⟩
    refine Rch.closed (p := fun x => x ∈ sk m) (fun y hy t ht => ?_) hr ?_
    · rcases h.suc y hy t ht with h1 | h1
      · exact h1
      · cases h1
    · rcases h.all f hf with h1 | h1
      · exact h1
      · cases h1
end
/-- A set's names, rising. -/
structure RS (p : ByteArray → Prop) (xs : List ByteArray) : Prop where
  nod : xs.Nodup
  srt : xs.Pairwise (fun a b => leS a b = true)
  mem : ∀ x, x ∈ xs ↔ p x
theorem sorted_uniq : ∀ {l m : List ByteArray}, l.Nodup → m.Nodup → l.Pairwise (fun a b => leS a b = true) → m.Pairwise (fun a b => leS a b = true) → (∀ x, x ∈ l ↔ x ∈ m) → l = m
  | [], m, _, _, _, _, h => by
    cases m with
    | nil => rfl
    | cons y m => have := (h y).2 (by simp); cases this
  | x :: l, [], _, _, _, _, h => by have := (h x).1 (by simp); cases this
  | x :: l, y :: m, hl, hm, sl, sm, h => by
    have hl' := List.nodup_cons.1 hl
    have hm' := List.nodup_cons.1 hm
    have sl' := List.pairwise_cons.1 sl
    have sm' := List.pairwise_cons.1 sm
    have e : x = y := by
      rcases List.mem_cons.1 ((h x).1 (by simp)) with h1 | h1
      · exact h1
      · rcases List.mem_cons.1 ((h y).2 (by simp)) with h2 | h2
        · exact h2.symm
        · exact leS_anti (sl'.1 y h2) (sm'.1 x h1)
    subst e
    congr 1
    refine sorted_uniq hl'.2 hm'.2 sl'.2 sm'.2 (fun z => ⟨fun hz => ?_, fun hz => ?_⟩)
    · rcases List.mem_cons.1 ((h z).1 (by simp [hz])) with h1 | h1
      · subst h1; exact absurd hz hl'.1
      · exact h1
    · rcases List.mem_cons.1 ((h z).2 (by simp [hz])) with h1 | h1
      · subst h1; exact absurd hz hm'.1
      · exact h1
theorem RS.uniq {p : ByteArray → Prop} {l m : List ByteArray} (h : RS p l) (k : RS p m) : l = m :=
  sorted_uniq h.nod k.nod h.srt k.srt (fun x => (h.mem x).trans (k.mem x).symm)
theorem RS.of {l : List ByteArray} (h : l.Nodup) : RS (fun x => x ∈ l) (isort l) := ⟨(isort_perm l).nodup_iff.2 h, isort_sorted l, fun x => isort_mem⟩
/-- What a name comes to, rising. -/
abbrev RchL (rs : List Rul) (x : ByteArray) : List ByteArray → Prop := RS fun y => Rch (gSuc (drawF rs)) x y
theorem RI.list {rs : List Rul} {x : ByteArray} {m : Se} (h : RI rs [x] m []) : RchL rs x (isort (sk m)) := by
  refine ⟨(isort_perm _).nodup_iff.2 h.nod, isort_sorted _, fun y => ?_⟩
  rw [isort_mem, h.fin]
  constructor
  · rintro ⟨f, hf, hr⟩; rw [List.mem_singleton.1 hf] at hr; exact hr
  · exact fun hr => ⟨x, by simp, hr⟩
end Go.Ped
namespace Go.Ped
open Go Go.Eng Go.Maps Go.Sort
theorem hd_mem {p : List ByteArray} (h : p ≠ []) : hdS p ∈ p := by
  cases p with
  | nil => exact absurd rfl h
  | cons x p => simp [hdS]
section
variable {G : ByteArray → List ByteArray} {N : List ByteArray} {o o' : List (List ByteArray)}
theorem PO.cls_eq (h : PO G N o) (h' : PO G N o') {p q : List ByteArray} {x : ByteArray} (hp : p ∈ o) (hq : q ∈ o') (h1 : x ∈ p) (h2 : x ∈ q) : p = q := by
  obtain ⟨_, a, b, c⟩ := h.cls p hp
  obtain ⟨_, d, e, f⟩ := h'.cls q hq
  exact sorted_uniq a d b e (fun y => (c x h1 y).symm.trans (f x h2 y))
theorem PO.next (h : PO G N o) (h' : PO G N o') {k : Nat} (ht : ∀ j, j < k → o[j]? = o'[j]?) {p : List ByteArray} (hp : o[k]? = some p) : ∃ p', o'[k]? = some p' ∧ ltS (hdS p) (hdS p') = false := by
  have hpm := List.mem_of_getElem? hp
  have hne := (h.cls p hpm).1
  obtain ⟨q, hq, hx⟩ := (h'.all _).1 ((h.all (hdS p)).2 ⟨p, hpm, hd_mem hne⟩)
  have e := h.cls_eq h' hpm hq (hd_mem hne) hx
  subst e
  obtain ⟨j, hj⟩ := List.getElem?_of_mem hq
  have hjk : k ≤ j := by
    rcases Nat.lt_or_ge j k with hlt | hge
    · rw [← ht j hlt] at hj
      have := h.dis j k p p (hdS p) hj hp hx hx
      omega
    · exact hge
  have hl : k < o'.length := Nat.lt_of_le_of_lt hjk (List.getElem?_eq_some_iff.1 hj).1
  refine ⟨o'[k], List.getElem?_eq_getElem hl, h'.least k j _ p (List.getElem?_eq_getElem hl) hj hjk (fun x hx y hr => ?_)⟩
  obtain ⟨i, q, hi, hq, hy⟩ := h.ord k p x y hp hx hr
  rcases Nat.lt_or_ge i k with hlt | hge
  · exact .inr ⟨i, q, hlt, by rw [← ht i hlt]; exact hq, hy⟩
  · have : i = k := by omega
    subst this
    rw [hp] at hq; cases hq
    exact .inl hy
theorem PO.uniq (h : PO G N o) (h' : PO G N o') : o = o' := by
  have key : ∀ k : Nat, ∀ j, j < k → o[j]? = o'[j]? := by
    intro k
    induction k with
    | zero => intro j hj; omega
    | succ k ih =>
      intro j hj
      rcases Nat.lt_succ_iff_lt_or_eq.1 hj with hj | rfl
      · exact ih j hj
      · cases hp : o[j]? with
        | none =>
          cases hp' : o'[j]? with
          | none => rfl
          | some p' =>
            obtain ⟨p, h1, _⟩ := h'.next h (fun i hi => (ih i hi).symm) hp'
            rw [hp] at h1; cases h1
        | some p =>
          obtain ⟨p', h1, h2⟩ := h.next h' ih hp
          obtain ⟨p2, h3, h4⟩ := h'.next h (fun i hi => (ih i hi).symm) h1
          rw [hp] at h3; cases h3
          have e : hdS p = hdS p' := by
            rcases ltS_tri (hdS p) (hdS p') with h5 | h5 | h5
            · rw [h2] at h5; cases h5
            · exact h5
            · rw [h4] at h5; cases h5
          have hm := List.mem_of_getElem? hp
          have hm' := List.mem_of_getElem? h1
          rw [h1, h.cls_eq h' hm hm' (hd_mem (h.cls p hm).1) (by rw [e]; exact hd_mem (h'.cls p' hm').1)]
  apply List.ext_getElem?
  intro i
  exact key (i + 1) i (by omega)
theorem PO.conv {G' : ByteArray → List ByteArray} {N' : List ByteArray} (h : PO G N o) (hr : ∀ x y, Rch G x y ↔ Rch G' x y) (hn : ∀ x, x ∈ N ↔ x ∈ N') : PO G' N' o := by
  refine ⟨fun p hp => ?_, fun x => (hn x).symm.trans (h.all x), h.dis, fun i p x y hp hx hxy => h.ord i p x y hp hx ((hr x y).2 hxy), fun i j p q hp hq hij hc => h.least i j p q hp hq hij (fun x hx y hxy => hc x hx y ((hr x y).1 hxy))⟩
  obtain ⟨a, b, c, d⟩ := h.cls p hp
  exact ⟨a, b, c, fun x hx y => by rw [← hr, ← hr]; exact d x hx y⟩
end
end Go.Ped
namespace Go.Ped
open Go Go.Eng Go.Maps Go.Sort
/-- A strict edge on a way back to where it begins. -/
def Bad (rs : List Rul) (e : Edg) : Prop := e.kind ≠ 1 ∧ Rch (gSuc (drawF rs)) e.to e.frm
/-- What Levels answers. -/
inductive LvO (rs : List Rul) : List Lvl → Int → Int → Prop
  | bad {i : Nat} {e : Edg} : (edgesF rs)[i]? = some e → Bad rs e → (∀ (j : Nat) d, j < i → (edgesF rs)[j]? = some d → ¬ Bad rs d) → LvO rs [] e.rule (codeF e.kind)
  | good {f : ByteArray → Int} : (∀ e ∈ edgesF rs, ¬ Bad rs e) → Lev (edgesF rs) f → (∀ x, f x < 2097152) → LvO rs ((namesG (drawF rs)).map fun s => ⟨s, f s⟩) 0 0
theorem lev_total {rs : List Rul} (hn : NOk rs) : ∃ K ls n e, levF K rs = some (ls, n, e) ∧ LvO rs ls n e := by
  obtain ⟨σ, hσ, ok⟩ := parts_ok hn.g draw_closed
  cases hf : (edgesF rs).find? (blB σ.inn) with
  | some d =>
    refine ⟨0, [], d.rule, codeF d.kind, ?_, ?_⟩
    · unfold levF
      rw [hσ]
      simp only [Option.bind_some, hf]
    · obtain ⟨h1, i, hi, h2, h3⟩ := List.find?_eq_some_iff_getElem.1 hf
      have hd : (edgesF rs)[i]? = some d := by rw [← h2]; exact List.getElem?_eq_getElem hi
      refine .bad hd ((blB_iff ok (List.mem_of_getElem? hd)).1 h1) (fun j d' hj hd' hb => ?_)
      have h4 := h3 j hj
      obtain ⟨h5, h6⟩ := List.getElem?_eq_some_iff.1 hd'
      rw [h6, (blB_iff ok (List.mem_of_getElem? hd')).2 hb] at h4
      cases h4
  | none =>
    obtain ⟨K, fin, h1, h2⟩ := lev_ok hn ok hf
    have hs : Sol (edgesF rs) (fun x => iget σ.inn x) := by
      refine ⟨fun x => ?_, fun e he => ?_⟩
      · unfold iget
        cases h : mget σ.inn x with
        | none => simp
        | some n => obtain ⟨i, p, rfl, _⟩ := ok.out2 x n h; simp
      · obtain ⟨i, j, h1, h2, h3, h4, h5, h6⟩ := inn_edge ok he
        have hbe := List.find?_eq_none.1 hf e he
        unfold blB at hbe
        show iget σ.inn e.to + stI e ≤ iget σ.inn e.frm
        unfold iget at hbe ⊢
        rw [h1, h2] at hbe ⊢
        simp only [Option.getD_some, Bool.and_eq_true, decide_eq_true_eq] at hbe ⊢
        unfold stI
        split
        · omega
        · rename_i hk
          have : ¬ i = j := fun e => hbe ⟨hk, e⟩
          omega
    refine ⟨K, _, 0, 0, ?_, .good (f := iget fin) (fun e he hb => ?_) h2 (fun x => ?_)⟩
    · unfold levF
      rw [hσ]
      simp only [Option.bind_some, hf, h1]
      rfl
    · exact List.find?_eq_none.1 hf e he ((blB_iff ok he).2 hb)
    · refine Int.lt_of_le_of_lt (h2.least _ hs x) ?_
      show iget σ.inn x < _
      unfold iget
      cases h : mget σ.inn x with
      | none => simp
      | some n =>
        obtain ⟨i, p, rfl, hp, _⟩ := ok.out2 x n h
        have h1 := (List.getElem?_eq_some_iff.1 hp).1
        have h2 := ok.len
        have h3 := hn.g.len
        simp only [Option.getD_some]; omega
section
variable {rs qs : List Rul}
theorem suc_rules {x t : ByteArray} : t ∈ gSuc (drawF rs) x ↔ ∃ r ∈ rs, r.pred = x ∧ ∃ y ∈ bdy r, y.atom.pred = t := by
  rw [mem_suc]
  constructor
  · rintro ⟨e, he, h1, h2⟩
    obtain ⟨i, r, hi, y, hy, rfl⟩ := mem_edges.1 he
    exact ⟨r, List.mem_of_getElem? hi, h1, y, hy, h2⟩
  · rintro ⟨r, hr, h1, y, hy, h2⟩
    obtain ⟨i, hi⟩ := List.getElem?_of_mem hr
    exact ⟨_, mem_edges.2 ⟨i, r, hi, y, hy, rfl⟩, h1, h2⟩
theorem same_suc (h : ∀ r, r ∈ rs → r ∈ qs) {x y : ByteArray} (hr : Rch (gSuc (drawF rs)) x y) : Rch (gSuc (drawF qs)) x y := by
  induction hr with
  | refl => exact .refl _
  | step h1 _ ih =>
    obtain ⟨r, hr, h2⟩ := suc_rules.1 h1
    exact .step (suc_rules.2 ⟨r, h r hr, h2⟩) ih
theorem same_names (h : ∀ r, r ∈ rs ↔ r ∈ qs) : namesG (drawF rs) = namesG (drawF qs) := by
  refine sorted_uniq ((isort_perm _).nodup_iff.2 (draw_nodup rs)) ((isort_perm _).nodup_iff.2 (draw_nodup qs)) (isort_sorted _) (isort_sorted _) (fun x => ?_)
  rw [namesG_mem, namesG_mem, mem_names, mem_names]
  constructor
  · rintro ⟨r, hr, h2⟩; exact ⟨r, (h r).1 hr, h2⟩
  · rintro ⟨r, hr, h2⟩; exact ⟨r, (h r).2 hr, h2⟩
theorem same_edge (h : ∀ r, r ∈ rs → r ∈ qs) {e : Edg} (he : e ∈ edgesF rs) : ∃ d ∈ edgesF qs, d.frm = e.frm ∧ d.to = e.to ∧ d.kind = e.kind := by
  obtain ⟨i, r, hi, y, hy, rfl⟩ := mem_edges.1 he
  obtain ⟨j, hj⟩ := List.getElem?_of_mem (h r (List.mem_of_getElem? hi))
  exact ⟨_, mem_edges.2 ⟨j, r, hj, y, hy, rfl⟩, rfl, rfl, rfl⟩
theorem same_bad (h : ∀ r, r ∈ rs → r ∈ qs) (hq : ∀ e ∈ edgesF qs, ¬ Bad qs e) : ∀ e ∈ edgesF rs, ¬ Bad rs e := by
  intro e he hb
  obtain ⟨d, hd, h1, h2, h3⟩ := same_edge h he
  exact hq d hd ⟨by rw [h3]; exact hb.1, by rw [h1, h2]; exact same_suc h hb.2⟩
theorem same_sol (h : ∀ r, r ∈ rs → r ∈ qs) {f : ByteArray → Int} (hs : Sol (edgesF qs) f) : Sol (edgesF rs) f := by
  refine ⟨hs.pos, fun e he => ?_⟩
  obtain ⟨d, hd, h1, h2, h3⟩ := same_edge h he
  have := hs.ok d hd
  rw [h1, h2, show stI d = stI e from by unfold stI; rw [h3]] at this
  exact this
theorem same_lev (h : ∀ r, r ∈ rs ↔ r ∈ qs) {f : ByteArray → Int} (hs : Lev (edgesF rs) f) : Lev (edgesF qs) f :=
  ⟨same_sol (fun r hr => (h r).2 hr) hs.sol, fun g hg => hs.least g (same_sol (fun r hr => (h r).1 hr) hg)⟩
theorem codeF_ne (k : Int) : codeF k ≠ 0 := by unfold codeF; split <;> (try split) <;> omega
theorem same_lvo (h : ∀ r, r ∈ rs ↔ r ∈ qs) {ls ls' : List Lvl} {n n' e e' : Int} (h1 : LvO rs ls n e) (h2 : LvO qs ls' n' e') : (e = 0 ↔ e' = 0) ∧ ls = ls' := by
  cases h1 with
  | @bad i d hd hb hf =>
    cases h2 with
    | bad _ _ _ => exact ⟨⟨fun e => absurd e (codeF_ne _), fun e => absurd e (codeF_ne _)⟩, rfl⟩
    | good hq _ _ => exact absurd hb (same_bad (fun r hr => (h r).1 hr) hq d (List.mem_of_getElem? hd))
  | @good f hq hl _ =>
    cases h2 with
    | @bad i d hd hb hf => exact absurd hb (same_bad (fun r hr => (h r).2 hr) hq d (List.mem_of_getElem? hd))
    | @good f' hq' hl' _ =>
      refine ⟨Iff.rfl, ?_⟩
      rw [same_names h, (same_lev h hl).uniq hl']
theorem same_po (h : ∀ r, r ∈ rs ↔ r ∈ qs) {o o' : List (List ByteArray)} (h1 : PO (gSuc (drawF rs)) ((drawF rs).map Prod.fst) o) (h2 : PO (gSuc (drawF qs)) ((drawF qs).map Prod.fst) o') : o = o' := by
  refine (h1.conv (fun x y => ⟨same_suc (fun r hr => (h r).1 hr), same_suc (fun r hr => (h r).2 hr)⟩) (fun x => ?_)).uniq h2
  rw [← namesG_mem, ← namesG_mem, same_names h]
end
end Go.Ped
