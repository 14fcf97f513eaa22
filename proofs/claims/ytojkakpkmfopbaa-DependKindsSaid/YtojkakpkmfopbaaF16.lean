/- What a body limits; the rule that may be used. -/
import Derived.Test.YtojkakpkmfopbaaEngL
import Derived.Test.YtojkakpkmfopbaaF15
set_option linter.unusedVariables false
set_option maxRecDepth 20000
namespace Go.Ped
open Go Go.Eng Go.RowKit Go.Proofs

theorem tp83 : placesB Try.prog 83 = some [(0, 1), (1, 1)] := by kernel_rfl
theorem tz83 : zeroB Try.prog 83 = some (.agg #[(.slice none 0 0), (.map none)]) := by kernel_rfl
theorem tz86 : zeroB Try.prog 86 = some (.agg #[(.slice none 0 0)]) := by kernel_rfl
theorem cal28 : CallOk Try.prog 28 := ⟨⟨Try.f28, Try.func28, rfl, by decide⟩⟩
theorem cal29 : CallOk Try.prog 29 := ⟨⟨Try.f29, Try.func29, rfl, by decide⟩⟩
theorem cal30 : CallOk Try.prog 30 := ⟨⟨Try.f30, Try.func30, rfl, by decide⟩⟩
theorem tp92 : placesB Try.prog 92 = some [(0, 1), (1, 1), (2, 1), (3, 1)] := by kernel_rfl
theorem cal31 : CallOk Try.prog 31 := ⟨⟨Try.f31, Try.func31, rfl, by decide⟩⟩
def eqnOf (x : Ltr) : Eqn := ⟨loneF x.left, loneF x.right, addVars [] (expT x.left), addVars [] (expT x.right)⟩
def limStep (p : List Eqn × List ByteArray) (x : Ltr) : List Eqn × List ByteArray :=
  if x.kind = 1 then (p.1, addNews p.2 (addVars [] (atmT x.atom))) else if x.kind = 3 ∧ x.rel = 1 then (p.1 ++ [eqnOf x], p.2) else p
def limA (xs : List Ltr) : List Eqn × List ByteArray := xs.foldl limStep ([], [])
def limR : Nat → List Eqn → List ByteArray → List ByteArray
  | 0, _, l => l
  | n + 1, eqs, l => if ((rndF eqs l).1.length : Int) < (eqs.length : Int) then limR n (rndF eqs l).1 (rndF eqs l).2 else (rndF eqs l).2
def limF (xs : List Ltr) : List ByteArray := limR ((limA xs).1.length + 1) (limA xs).1 (limA xs).2
theorem lim_step {xs : List Ltr} {i : Nat} {x : Ltr} (hx : xs[i]? = some x) : limA (xs.take (i + 1)) = limStep (limA (xs.take i)) x := by
  rw [List.take_add_one, hx, limA, List.foldl_append]; rfl
theorem lim_pos {xs : List Ltr} {i : Nat} {x : Ltr} (hx : xs[i]? = some x) (h : x.kind = 1) : limA (xs.take (i + 1)) = ((limA (xs.take i)).1, addNews (limA (xs.take i)).2 (addVars [] (atmT x.atom))) := by
  rw [lim_step hx, limStep, if_pos h]
theorem lim_eqn {xs : List Ltr} {i : Nat} {x : Ltr} (hx : xs[i]? = some x) (h : ¬ x.kind = 1) (h2 : x.kind = 3 ∧ x.rel = 1) : limA (xs.take (i + 1)) = ((limA (xs.take i)).1 ++ [eqnOf x], (limA (xs.take i)).2) := by
  rw [lim_step hx, limStep, if_neg h, if_pos h2]
theorem lim_no {xs : List Ltr} {i : Nat} {x : Ltr} (hx : xs[i]? = some x) (h : ¬ x.kind = 1) (h2 : ¬ (x.kind = 3 ∧ x.rel = 1)) : limA (xs.take (i + 1)) = limA (xs.take i) := by
  rw [lim_step hx, limStep, if_neg h, if_neg h2]
theorem expT_pos (e : Exp) : 1 ≤ (expT e).length := by cases e; simp [expT]
theorem limA_len (xs : List Ltr) : (limA xs).1.length + (limA xs).2.length ≤ (xs.flatMap ltrT).length := by
  have : ∀ (xs : List Ltr) (p : List Eqn × List ByteArray), (xs.foldl limStep p).1.length + (xs.foldl limStep p).2.length ≤ p.1.length + p.2.length + (xs.flatMap ltrT).length := by
    intro xs
    induction xs with
    | nil => intro p; simp
    | cons x xs ih =>
      intro p
      have h1 := ih (limStep p x)
      have h2 : (limStep p x).1.length + (limStep p x).2.length ≤ p.1.length + p.2.length + (ltrT x).length := by
        have h3 := addNews_len p.2 (addVars [] (atmT x.atom))
        have h4 := addVars_len [] (atmT x.atom)
        have h5 := expT_pos x.left
        simp only [ltrT, List.length_append]
        simp only [List.length_nil] at h4
        unfold limStep
        split
        · simp only; omega
        · split
          · simp only [List.length_append, List.length_cons, List.length_nil]; omega
          · omega
      simp only [List.foldl_cons, List.flatMap_cons, List.length_append]
      omega
  simpa [limA] using this xs ([], [])
theorem rndF_sum (eqs : List Eqn) (l : List ByteArray) : (rndF eqs l).1.length + (rndF eqs l).2.length ≤ l.length + eqs.length := by
  have : ∀ (es : List Eqn × List ByteArray), (eqs.foldl rnd es).1.length + (eqs.foldl rnd es).2.length ≤ es.1.length + es.2.length + eqs.length := by
    induction eqs with
    | nil => intro es; simp
    | cons q qs ih =>
      intro es
      have h := ih (rnd es q)
      have h2 := takeL_len q es.2
      have h3 : (rnd es q).1.length + (rnd es q).2.length ≤ es.1.length + es.2.length + 1 := by
        unfold rnd
        split
        · simp only; omega
        · rename_i hb
          have e : takeL q es.2 = es.2 := by
            simp only [takeB, Bool.or_eq_true, not_or, Bool.not_eq_true] at hb
            rw [takeL, hb.1, hb.2]; rfl
          rw [e]; simp only [List.length_append, List.length_cons, List.length_nil]; omega
      simp only [List.foldl_cons, List.length_cons]; omega
  simpa [rndF] using this ([], l)
theorem limR_fuel : ∀ (n m : Nat) (eqs : List Eqn) (l : List ByteArray), eqs.length < n → eqs.length < m → limR n eqs l = limR m eqs l := by
  intro n
  induction n with
  | zero => intro m eqs l h; omega
  | succ n ih =>
    intro m eqs l h1 h2
    cases m with
    | zero => omega
    | succ m =>
      rw [limR, limR]
      split
      · exact ih m _ _ (by omega) (by omega)
      · rfl
theorem limR_go {eqs : List Eqn} {l : List ByteArray} (h : ((rndF eqs l).1.length : Int) < (eqs.length : Int)) : limR (eqs.length + 1) eqs l = limR ((rndF eqs l).1.length + 1) (rndF eqs l).1 (rndF eqs l).2 := by
  rw [limR, if_pos h]; exact limR_fuel _ _ _ _ (by omega) (by omega)
theorem limR_end {eqs : List Eqn} {l : List ByteArray} (h : ¬ ((rndF eqs l).1.length : Int) < (eqs.length : Int)) : limR (eqs.length + 1) eqs l = (rndF eqs l).2 := by
  rw [limR, if_neg h]
theorem flat_at {α β : Type} (f : α → List β) {xs : List α} {i : Nat} {x : α} (hx : xs[i]? = some x) : ((xs.take i).flatMap f).length + (f x).length ≤ (xs.flatMap f).length := by
  have h : xs = xs.take i ++ x :: xs.drop (i + 1) := by
    obtain ⟨h1, h2⟩ := List.getElem?_eq_some_iff.1 hx
    rw [← h2]; simp
  conv => rhs; rw [h]
  simp only [List.flatMap_append, List.flatMap_cons, List.length_append]; omega
/-- A found set, by the pointer to it. -/
def Fnd (r : Value) (l : List ByteArray) : Res := Ex fun p : Nat × Nat × Value => Pk (Fact (r = .pointer (some ⟨p.1, 0, none⟩)) :: FS p.1 p.2.1 p.2.2 l [])
theorem Fnd.open {Z : Nat → Prop} {w0 w : World} {L : List Res} {r : Value} {l : List ByteArray} (st : St Z w0 w (Fnd r l :: L)) : ∃ fb mb lv, r = .pointer (some ⟨fb, 0, none⟩) ∧ St Z w0 w (FS fb mb lv l L) := by
  obtain ⟨⟨fb, mb, lv⟩, st⟩ := st.ex
  have st := st.pk
  exact ⟨fb, mb, lv, st.fact (i := 0) rfl, st.tl⟩
theorem Fnd.shut {Z : Nat → Prop} {w0 w : World} {L : List Res} {fb mb : Nat} {lv : Value} {l : List ByteArray} (st : St Z w0 w (FS fb mb lv l L)) : St Z w0 w (Fnd (.pointer (some ⟨fb, 0, none⟩)) l :: L) :=
  St.exI (fb, mb, lv) (St.pkI (K := Fact _ :: FS fb mb lv l []) (St.factI rfl st))
theorem limits_spec {Z : Nat → Prop} {w0 w : World} {L : List Res} (st : St Z w0 w L) (v : Value) (xs : List Ltr) (hv : rLtr.sl Z w0 v xs) (hb : (xs.flatMap ltrT).length < 536870912) : Calls Try.prog 15 #[v] w (Ret fun r w' => r.oneCell' = true ∧ r.cells = #[r] ∧ St Z w0 w' (Fnd r (limF xs) :: L)) := by
 have hal0 := Rl.sl_le hv
 refine calls_of_WC (m := 57) (rs := [.tmp 2]) Try.func15 rfl rfl rfl rfl ?_
 refine Wsr ?_
 refine W1 (OpT.assign (.pointer none) rfl ?_)
 refine Wns ?_
 refine W1 (OpT.makeMap Value.string (Value.int .i64) st (fun b1 w2 st3 => ?_))
 refine W1 (OpT.build [(1, (.map (some b1)))] [vn, (.map (some b1))] tz83 tp83 (mp1 rfl) rfl ?_)
 refine W1 (OpT.box st3 (.agg #[vn, (.map (some b1))]) [vn, (.map (some b1))] rfl rfl (fun b4 w5 st6 => ?_))
 refine W1 (OpT.assign (pt b4 0) rfl ?_)
 refine Wns ?_
 refine W1 (OpT.alloc st6 (.agg #[vn]) [vn] tz86 rfl (fun b7 w8 st9 => ?_))
 refine Wnt ?_
 refine WC.seq ?_
 refine Wsr ?_
 refine W1 (OpT.move v rfl ?_)
 refine W1 (OpT.lenR rfl tu29 hv rfl ?_)
 refine W1 (OpT.move (ii 0) rfl ?_)
 refine Wnt ?_
 refine WC.block ?_
 obtain ⟨fb, rfl⟩ : ∃ x, x = b4 := ⟨_, rfl⟩
 obtain ⟨rb, rfl⟩ : ∃ x, x = b7 := ⟨_, rfl⟩
 obtain ⟨mb, rfl⟩ : ∃ x, x = b1 := ⟨_, rfl⟩
 have st10 : St Z w0 w8 (Row 92 4 vn 0 [] :: Row 9 1 vn 0 [] :: Blk rb 86 [vn] :: Blk fb 83 [vn, (.map (some mb))] :: (Mp Value.string (Value.int .i64) mb ([] : List (ByteArray × Int))) :: L) := ((st9).rowNil 9 1).rowNil 92 4
 have st11 : St Z w0 w8 (Blk rb 86 [vn] :: Row 92 4 vn 0 [] :: Blk fb 83 [vn, (.map (some mb))] :: Row 9 1 vn 0 [] :: (Mp Value.string (Value.int .i64) mb ([] : List (ByteArray × Int))) :: L) := St.selT [Row 92 4 vn 0 [], Row 9 1 vn 0 [], Blk rb 86 [vn], Blk fb 83 [vn, (.map (some mb))], (Mp Value.string (Value.int .i64) mb ([] : List (ByteArray × Int)))] [2, 0, 3, 1, 4] rfl (by decide) st10
 refine WC.loop (fun m ρ wz => ∃ (i : Nat), ∃ (Z1 : Nat → Prop), ∃ (w1 : World), ∃ (lv2 : Value), ∃ (lf : Value), ∃ (cs2 : List Value), m = xs.length - i ∧ i ≤ xs.length ∧ Ext Z w0 Z1 w1 ∧ RowsOf (rEqn.R Z1 w1) 4 cs2 (limA (xs.take i)).1 ∧ ρ 12 = (ni i) ∧ ρ 3 = (pt fb 0) ∧ ρ 4 = (pt rb 0) ∧ ρ 10 = v ∧ ρ 11 = (ni (xs.length)) ∧ St Z1 w1 wz (Blk rb 86 [lf] :: Row 92 4 lf (limA (xs.take i)).1.length cs2 :: Blk fb 83 [lv2, (.map (some mb))] :: Row 9 1 lv2 ((limA (xs.take i)).2).length (((limA (xs.take i)).2).map Value.string) :: Mp Value.string (Value.int .i64) mb (fm ((limA (xs.take i)).2)) :: L)) _ ⟨0, Z, w0, vn, vn, [], rfl, by omega, Ext.refl _ _, RowsOf.nil, rfl, rfl, rfl, rfl, rfl, st11⟩ ?_
 rintro m12 ρ13 w14 ⟨i, Z1, w1, lv2, lf, cs2, hm22, hp16, hxx, HR, hs17, hs18, hs19, hs20, hs21, st15⟩
 have hv1 := hxx.sl hv
 have olv2 := st15.rowOne (i := 3) rfl
 have clv2 := st15.rowCel (i := 3) rfl
 have olf := st15.rowOne (i := 1) rfl
 have clf := st15.rowCel (i := 1) rfl
 have hal := limA_len (xs.take i)
 refine Wsr ?_
 refine W1 (OpT.ilt .i64 (((i : Nat) : Int)) (((xs.length : Nat) : Int)) hs17 hs21 ?_)
 refine Wnt ?_
 refine WC.seq ?_
 refine WC.condP (((i : Nat) : Int) < ((xs.length : Nat) : Int)) rfl (fun h23 => ?_) (fun h23 => ?_)
 ·refine WC.skip ?_
  refine thenQ_n ?_
  refine WC.seq ?_
  refine WC.block ?_
  refine Wsr ?_
  obtain ⟨x24, hx24⟩ : ∃ x, (xs)[i]? = some x := ⟨_, List.getElem?_eq_getElem (by omega)⟩
  refine W1 (OpT.idxX tu29 ts61 hv1 hs20 .i64 (i) hs17 hx24 (fun ad25 cs26 hr27 hR28 => ?_))
  have hR28c := hR28
  obtain ⟨av29, lk30, rk31, rfl, ha32, hl33, hr34⟩ := hR28
  refine W1 (OpT.loadA ad25 16 [(.int .i8 (x24.kind)), (.string x24.atom.pred), av29, (.int .i8 (x24.rel)), (.int .i8 (x24.left.op)), (.string x24.left.term.var), (.int .i8 (x24.left.term.val.kind)), (.int .i64 (x24.left.term.val.num)), (.string x24.left.term.val.text), lk30, (.int .i8 (x24.right.op)), (.string x24.right.term.var), (.int .i8 (x24.right.term.val.kind)), (.int .i64 (x24.right.term.val.num)), (.string x24.right.term.val.text), rk31] ta61 ts61 rfl ((hr27.at st15).part 0 16) rfl ?_)
  refine W1 (OpT.alloc st15 (.agg #[(.int .i8 (0)), ve, vn, (.int .i8 (0)), (.int .i8 (0)), ve, (.int .i8 (0)), (ii 0), ve, vn, (.int .i8 (0)), ve, (.int .i8 (0)), (ii 0), ve, vn]) [(.int .i8 (0)), ve, vn, (.int .i8 (0)), (.int .i8 (0)), ve, (.int .i8 (0)), (ii 0), ve, vn, (.int .i8 (0)), ve, (.int .i8 (0)), (ii 0), ve, vn] tz61 rfl (fun b35 w36 st37 => ?_))
  refine WL.stepN (OpT.storeA st37 0 16 [(.int .i8 (x24.kind)), (.string x24.atom.pred), av29, (.int .i8 (x24.rel)), (.int .i8 (x24.left.op)), (.string x24.left.term.var), (.int .i8 (x24.left.term.val.kind)), (.int .i64 (x24.left.term.val.num)), (.string x24.left.term.val.text), lk30, (.int .i8 (x24.right.op)), (.string x24.right.term.var), (.int .i8 (x24.right.term.val.kind)), (.int .i64 (x24.right.term.val.num)), (.string x24.right.term.val.text), rk31] rfl ts61 rfl rfl (aC rfl (aC rfl (aC (Rl.sl_one ha32) (aC rfl (aC rfl (aC rfl (aC rfl (aC rfl (aC rfl (aC (Rl.sl_one hl33) (aC rfl (aC rfl (aC rfl (aC rfl (aC rfl (aC (Rl.sl_one hr34) aN)))))))))))))))) rfl rfl (fun w38 st39 => ?_))
  refine Wnt ?_
  have hfl := flat_at ltrT hx24
  have hfa := addVars_len [] (atmT x24.atom)
  have hfb := addVars_len [] (expT x24.left)
  have hfc := addVars_len [] (expT x24.right)
  simp only [ltrT, List.length_append, List.length_nil] at hfl hfa hfb hfc
  refine WC.block ?_
  refine Wsr ?_
  refine W1 (OpT.field 0 ⟨b35, 0, none⟩ ⟨b35, 0, none⟩ tf61_0 rfl rfl ?_)
  refine W1 (OpT.loadS ⟨b35, 0, none⟩ (.int .i8 (x24.kind)) ta51 rfl (st39.cellB (i := 0) rfl rfl) ?_)
  refine W1 (OpT.ieq .i8 (x24.kind) (1) rfl rfl ?_)
  refine W1 (OpT.assign (.bool (decide (x24.kind = 1))) rfl ?_)
  refine Wnt ?_
  refine WC.condP (x24.kind = 1) rfl (fun h40 => ?_) (fun h40 => ?_)
  ·refine WC.region ?_
   refine W1 (OpT.move (pt fb 0) hs18 ?_)
   refine W1 (OpT.field 1 ⟨b35, 0, none⟩ ⟨b35, 1, none⟩ tf61_1 rfl rfl ?_)
   refine W1 (OpT.loadA ⟨b35, 1, none⟩ 2 [(.string x24.atom.pred), av29] ta54 ts54 rfl ((st39.rowB (i := 0) rfl).part 1 2) rfl ?_)
   refine W1 (OpT.callS cal28 [] [] [(.agg #[(.string x24.atom.pred), av29])] rfl (ca1 rfl) (AtomVars_spec st39 x24.atom (by omega) _ ha32) ?_)
   rintro v43 w44 st45
   have o41 := st45.rowOne (i := 0) rfl
   have c42 := st45.rowCel (i := 0) rfl
   obtain ⟨Z46, hz47, hw48, hr49, st51, bk50⟩ := St.freezeStr ((St.selT [Row 9 1 v43 (addVars [] (atmT x24.atom)).length ((addVars [] (atmT x24.atom)).map Value.string), Blk b35 61 [(.int .i8 (x24.kind)), (.string x24.atom.pred), av29, (.int .i8 (x24.rel)), (.int .i8 (x24.left.op)), (.string x24.left.term.var), (.int .i8 (x24.left.term.val.kind)), (.int .i64 (x24.left.term.val.num)), (.string x24.left.term.val.text), lk30, (.int .i8 (x24.right.op)), (.string x24.right.term.var), (.int .i8 (x24.right.term.val.kind)), (.int .i64 (x24.right.term.val.num)), (.string x24.right.term.val.text), rk31], Blk rb 86 [lf], Row 92 4 lf (limA (xs.take i)).1.length cs2, Blk fb 83 [lv2, (.map (some mb))], Row 9 1 lv2 ((limA (xs.take i)).2).length (((limA (xs.take i)).2).map Value.string), Mp Value.string (Value.int .i64) mb (fm ((limA (xs.take i)).2))] [0, 4, 5, 6, 1, 2, 3] rfl (by decide) st45) : St Z1 w1 w44 (Row 9 1 v43 (addVars [] (atmT x24.atom)).length ((addVars [] (atmT x24.atom)).map Value.string) :: Blk fb 83 [lv2, (.map (some mb))] :: Row 9 1 lv2 ((limA (xs.take i)).2).length (((limA (xs.take i)).2).map Value.string) :: Mp Value.string (Value.int .i64) mb (fm ((limA (xs.take i)).2)) :: Blk b35 61 [(.int .i8 (x24.kind)), (.string x24.atom.pred), av29, (.int .i8 (x24.rel)), (.int .i8 (x24.left.op)), (.string x24.left.term.var), (.int .i8 (x24.left.term.val.kind)), (.int .i64 (x24.left.term.val.num)), (.string x24.left.term.val.text), lk30, (.int .i8 (x24.right.op)), (.string x24.right.term.var), (.int .i8 (x24.right.term.val.kind)), (.int .i64 (x24.right.term.val.num)), (.string x24.right.term.val.text), rk31] :: Blk rb 86 [lf] :: Row 92 4 lf (limA (xs.take i)).1.length cs2 :: L)) (by omega)
   refine W1 (OpT.callS cal27 [] [] [(pt fb 0), v43] rfl (ca2 rfl rfl) (add_spec st51 _ (addVars [] (atmT x24.atom)) hr49 (by omega)) ?_)
   rintro v55 w56 ⟨rfl, lv52, st57⟩
   replace st57 := bk50 _ _ st57
   have o53 := st57.rowOne (i := 2) rfl
   have c54 := st57.rowCel (i := 2) rfl
   refine WL.nil ?_
   refine blkQ_n ?_
   refine blkQ_n ?_
   refine thenQ_n ?_
   refine WC.region ?_
   refine W1 (OpT.iadd .i64 (((i : Nat) : Int)) (1) (((i + 1 : Nat) : Int)) hs17 rfl (wadd (a := i) (b := 1) (by omega)) ?_)
   refine W1 (OpT.move (ni (i + 1)) rfl ?_)
   refine WL.nil ?_
   have e59 := lim_pos hx24 h40
   have st58 : St Z1 w1 w56 (Blk rb 86 [lf] :: Row 92 4 lf (limA (xs.take (i + 1))).1.length cs2 :: Blk fb 83 [lv52, (.map (some mb))] :: Row 9 1 lv52 ((limA (xs.take (i + 1))).2).length (((limA (xs.take (i + 1))).2).map Value.string) :: Mp Value.string (Value.int .i64) mb (fm ((limA (xs.take (i + 1))).2)) :: L) := by rw [e59]; exact (St.selT [Row 9 1 v43 (addVars [] (atmT x24.atom)).length ((addVars [] (atmT x24.atom)).map Value.string), Blk fb 83 [lv52, (.map (some mb))], Row 9 1 lv52 (addNews ((limA (xs.take i)).2) (addVars [] (atmT x24.atom))).length ((addNews ((limA (xs.take i)).2) (addVars [] (atmT x24.atom))).map Value.string), Mp Value.string (Value.int .i64) mb (fm (addNews ((limA (xs.take i)).2) (addVars [] (atmT x24.atom)))), Blk b35 61 [(.int .i8 (x24.kind)), (.string x24.atom.pred), av29, (.int .i8 (x24.rel)), (.int .i8 (x24.left.op)), (.string x24.left.term.var), (.int .i8 (x24.left.term.val.kind)), (.int .i64 (x24.left.term.val.num)), (.string x24.left.term.val.text), lk30, (.int .i8 (x24.right.op)), (.string x24.right.term.var), (.int .i8 (x24.right.term.val.kind)), (.int .i64 (x24.right.term.val.num)), (.string x24.right.term.val.text), rk31], Blk rb 86 [lf], Row 92 4 lf (limA (xs.take i)).1.length cs2] [5, 6, 1, 2, 3] rfl (by decide) st57)
   exact loopQ_n _ (by omega) ⟨i + 1, Z1, w1, lv52, lf, cs2, rfl, by omega, hxx, by rw [e59]; exact HR, rfl, hs18, hs19, hs20, hs21, st58⟩
  refine Wsr ?_
  refine W1 (OpT.field 0 ⟨b35, 0, none⟩ ⟨b35, 0, none⟩ tf61_0 rfl rfl ?_)
  refine W1 (OpT.loadS ⟨b35, 0, none⟩ (.int .i8 (x24.kind)) ta51 rfl (st39.cellB (i := 0) rfl rfl) ?_)
  refine W1 (OpT.ieq .i8 (x24.kind) (3) rfl rfl ?_)
  refine W1 (OpT.move (.bool (decide (x24.kind = 3))) rfl ?_)
  by_cases h60 : x24.kind = 3
  ·refine W2 (dj := 29) (bT h60) (OpT.field 3 ⟨b35, 0, none⟩ ⟨b35, 3, none⟩ tf61_2 rfl rfl ?_)
   refine W2 (dj := 29) (bT h60) (OpT.loadS ⟨b35, 3, none⟩ (.int .i8 (x24.rel)) ta55 rfl (st39.cellB (i := 0) rfl rfl) ?_)
   refine W2 (dj := 29) (bT h60) (OpT.ieq .i8 (x24.rel) (1) rfl rfl ?_)
   refine W1 (OpT.pickT (.bool (decide (x24.rel = 1))) (bT h60) rfl ?_)
   refine W1 (OpT.assign (.bool (decide (x24.rel = 1))) rfl ?_)
   refine Wnt ?_
   refine WC.condP (x24.rel = 1) rfl (fun h61 => ?_) (fun h61 => ?_)
   ·refine WC.drawV2 16 (fun jj vals vv => match jj with | 0 => vv = (pt rb 0) | 1 => vv = lf | 2 => vv = (pt b35 4) | 3 => vv = (.agg #[(.int .i8 (x24.left.op)), (.string x24.left.term.var), (.int .i8 (x24.left.term.val.kind)), (.int .i64 (x24.left.term.val.num)), (.string x24.left.term.val.text), lk30]) | 4 => vv = (.string (loneF x24.left)) | 5 => vv = (pt b35 10) | 6 => vv = (.agg #[(.int .i8 (x24.right.op)), (.string x24.right.term.var), (.int .i8 (x24.right.term.val.kind)), (.int .i64 (x24.right.term.val.num)), (.string x24.right.term.val.text), rk31]) | 7 => vv = (.string (loneF x24.right)) | 8 => vv = (pt b35 4) | 9 => vv = (.agg #[(.int .i8 (x24.left.op)), (.string x24.left.term.var), (.int .i8 (x24.left.term.val.kind)), (.int .i64 (x24.left.term.val.num)), (.string x24.left.term.val.text), lk30]) | 10 => vv.oneCell' = true ∧ vv.cells = #[vv] | 11 => vv = (pt b35 10) | 12 => vv = (.agg #[(.int .i8 (x24.right.op)), (.string x24.right.term.var), (.int .i8 (x24.right.term.val.kind)), (.int .i64 (x24.right.term.val.num)), (.string x24.right.term.val.text), rk31]) | 13 => vv.oneCell' = true ∧ vv.cells = #[vv] | 14 => vv = (.agg #[(.string (loneF x24.left)), (.string (loneF x24.right)), (vals 10), (vals 13)]) | 15 => vv = (.slice (some ⟨(bk vv), 0, none⟩) 1 1) | _ => True) (fun jj vals vv => match jj with | 10 => [Row 9 1 vv (addVars [] (expT x24.left)).length ((addVars [] (expT x24.left)).map Value.string)] | 13 => [Row 9 1 vv (addVars [] (expT x24.right)).length ((addVars [] (expT x24.right)).map Value.string)] | 15 => [Blk (bk vv) 92 [(.string (loneF x24.left)), (.string (loneF x24.right)), (vals 10), (vals 13)]] | _ => []) st39 fmix (by kernel_rfl) ((obS (obS (obS (obS (obS (obS (obS (obS (obS (obS (obS (obS (obS (obS (obS (obS ob0 (fun aa bb vv h hf => hf)) (fun aa bb vv h hf => hf)) (fun aa bb vv h hf => hf)) (fun aa bb vv h hf => hf)) (fun aa bb vv h hf => hf)) (fun aa bb vv h hf => hf)) (fun aa bb vv h hf => hf)) (fun aa bb vv h hf => hf)) (fun aa bb vv h hf => hf)) (fun aa bb vv h hf => hf)) (fun aa bb vv h hf => hf)) (fun aa bb vv h hf => hf)) (fun aa bb vv h hf => hf)) (fun aa bb vv h hf => hf)) (fun aa bb vv h hf => by have hf : vv = (.agg #[(.string (loneF x24.left)), (.string (loneF x24.right)), (aa 10), (aa 13)]) := hf; rw [show aa 10 = bb 10 from h 10 rfl] at hf; rw [show aa 13 = bb 13 from h 13 rfl] at hf; exact hf)) (fun aa bb vv h hf => hf))) ((obS (obS (obS (obS (obS (obS (obS (obS (obS (obS (obS (obS (obS (obS (obS (obS ob0 (fun aa bb vv h => rfl)) (fun aa bb vv h => rfl)) (fun aa bb vv h => rfl)) (fun aa bb vv h => rfl)) (fun aa bb vv h => rfl)) (fun aa bb vv h => rfl)) (fun aa bb vv h => rfl)) (fun aa bb vv h => rfl)) (fun aa bb vv h => rfl)) (fun aa bb vv h => rfl)) (fun aa bb vv h => rfl)) (fun aa bb vv h => rfl)) (fun aa bb vv h => rfl)) (fun aa bb vv h => rfl)) (fun aa bb vv h => rfl)) (fun aa bb vv h => by show [Blk (bk vv) 92 [(.string (loneF x24.left)), (.string (loneF x24.right)), (aa 10), (aa 13)]] = [Blk (bk vv) 92 [(.string (loneF x24.left)), (.string (loneF x24.right)), (bb 10), (bb 13)]]; rw [show aa 10 = bb 10 from h 10 rfl, show aa 13 = bb 13 from h 13 rfl]))) ((obS (obS (obS (obS (obS (obS (obS (obS (obS (obS (obS (obS (obS (obS (obS (obS ob0 ?_) ?_) ?_) ?_) ?_) ?_) ?_) ?_) ?_) ?_) ?_) ?_) ?_) ?_) ?_) ?_)) ?_
    ·intro vals ρ w63 X hd h0 st62
     have e64 : ρ 4 = (pt rb 0) := (h0 4 rfl).trans hs19
     refine W1 (OpT.field 0 ⟨rb, 0, none⟩ ⟨rb, 0, none⟩ tf86_0 e64 rfl ?_)
     refine WL.nil ?_
     exact oneQ.mk ⟨rfl, st62⟩
    ·intro vals ρ w66 X hd h0 st65
     have e67 : ρ 34 = (pt rb 0) := ((hd 0 rfl).2 34 rfl).trans (hd 0 rfl).1
     refine W1 (OpT.loadS ⟨rb, 0, none⟩ lf ta84 e67 (st65.cellB (i := 1) rfl rfl) ?_)
     refine WL.nil ?_
     exact oneQ.mk ⟨rfl, st65⟩
    ·intro vals ρ w69 X hd h0 st68
     have e70 : ρ 6 = (pt b35 0) := (h0 6 rfl).trans rfl
     refine W1 (OpT.field 4 ⟨b35, 0, none⟩ ⟨b35, 4, none⟩ tf61_3 e70 rfl ?_)
     refine WL.nil ?_
     exact oneQ.mk ⟨rfl, st68⟩
    ·intro vals ρ w72 X hd h0 st71
     have e73 : ρ 36 = (pt b35 4) := ((hd 2 rfl).2 36 rfl).trans (hd 2 rfl).1
     refine W1 (OpT.loadA ⟨b35, 4, none⟩ 6 [(.int .i8 (x24.left.op)), (.string x24.left.term.var), (.int .i8 (x24.left.term.val.kind)), (.int .i64 (x24.left.term.val.num)), (.string x24.left.term.val.text), lk30] ta59 ts59 e73 ((st71.rowB (i := 0) rfl).part 4 6) rfl ?_)
     refine WL.nil ?_
     exact oneQ.mk ⟨rfl, st71⟩
    ·intro vals ρ w75 X hd h0 st74
     have e76 : ρ 37 = (.agg #[(.int .i8 (x24.left.op)), (.string x24.left.term.var), (.int .i8 (x24.left.term.val.kind)), (.int .i64 (x24.left.term.val.num)), (.string x24.left.term.val.text), lk30]) := ((hd 3 rfl).2 37 rfl).trans (hd 3 rfl).1
     refine W1 (OpT.callS cal29 [] [] [(.agg #[(.int .i8 (x24.left.op)), (.string x24.left.term.var), (.int .i8 (x24.left.term.val.kind)), (.int .i64 (x24.left.term.val.num)), (.string x24.left.term.val.text), lk30])] rfl (ca1 e76) (lone_spec st74 x24.left _ hl33) ?_)
     rintro v77 w78 ⟨rfl, st79⟩
     refine WL.nil ?_
     exact oneQ.mk ⟨rfl, st79⟩
    ·intro vals ρ w81 X hd h0 st80
     have e82 : ρ 6 = (pt b35 0) := (h0 6 rfl).trans rfl
     refine W1 (OpT.field 10 ⟨b35, 0, none⟩ ⟨b35, 10, none⟩ tf61_4 e82 rfl ?_)
     refine WL.nil ?_
     exact oneQ.mk ⟨rfl, st80⟩
    ·intro vals ρ w84 X hd h0 st83
     have e85 : ρ 39 = (pt b35 10) := ((hd 5 rfl).2 39 rfl).trans (hd 5 rfl).1
     refine W1 (OpT.loadA ⟨b35, 10, none⟩ 6 [(.int .i8 (x24.right.op)), (.string x24.right.term.var), (.int .i8 (x24.right.term.val.kind)), (.int .i64 (x24.right.term.val.num)), (.string x24.right.term.val.text), rk31] ta59 ts59 e85 ((st83.rowB (i := 0) rfl).part 10 6) rfl ?_)
     refine WL.nil ?_
     exact oneQ.mk ⟨rfl, st83⟩
    ·intro vals ρ w87 X hd h0 st86
     have e88 : ρ 40 = (.agg #[(.int .i8 (x24.right.op)), (.string x24.right.term.var), (.int .i8 (x24.right.term.val.kind)), (.int .i64 (x24.right.term.val.num)), (.string x24.right.term.val.text), rk31]) := ((hd 6 rfl).2 40 rfl).trans (hd 6 rfl).1
     refine W1 (OpT.callS cal29 [] [] [(.agg #[(.int .i8 (x24.right.op)), (.string x24.right.term.var), (.int .i8 (x24.right.term.val.kind)), (.int .i64 (x24.right.term.val.num)), (.string x24.right.term.val.text), rk31])] rfl (ca1 e88) (lone_spec st86 x24.right _ hr34) ?_)
     rintro v89 w90 ⟨rfl, st91⟩
     refine WL.nil ?_
     exact oneQ.mk ⟨rfl, st91⟩
    ·intro vals ρ w93 X hd h0 st92
     have e94 : ρ 6 = (pt b35 0) := (h0 6 rfl).trans rfl
     refine W1 (OpT.field 4 ⟨b35, 0, none⟩ ⟨b35, 4, none⟩ tf61_3 e94 rfl ?_)
     refine WL.nil ?_
     exact oneQ.mk ⟨rfl, st92⟩
    ·intro vals ρ w96 X hd h0 st95
     have e97 : ρ 42 = (pt b35 4) := ((hd 8 rfl).2 42 rfl).trans (hd 8 rfl).1
     refine W1 (OpT.loadA ⟨b35, 4, none⟩ 6 [(.int .i8 (x24.left.op)), (.string x24.left.term.var), (.int .i8 (x24.left.term.val.kind)), (.int .i64 (x24.left.term.val.num)), (.string x24.left.term.val.text), lk30] ta59 ts59 e97 ((st95.rowB (i := 0) rfl).part 4 6) rfl ?_)
     refine WL.nil ?_
     exact oneQ.mk ⟨rfl, st95⟩
    ·intro vals ρ w99 X hd h0 st98
     have e100 : ρ 43 = (.agg #[(.int .i8 (x24.left.op)), (.string x24.left.term.var), (.int .i8 (x24.left.term.val.kind)), (.int .i64 (x24.left.term.val.num)), (.string x24.left.term.val.text), lk30]) := ((hd 9 rfl).2 43 rfl).trans (hd 9 rfl).1
     refine W1 (OpT.callS cal30 [] [] [(.agg #[(.int .i8 (x24.left.op)), (.string x24.left.term.var), (.int .i8 (x24.left.term.val.kind)), (.int .i64 (x24.left.term.val.num)), (.string x24.left.term.val.text), lk30])] rfl (ca1 e100) (ExprVars_spec st98 x24.left (by omega) _ hl33) ?_)
     rintro v103 w104 st105
     have o101 := st105.rowOne (i := 0) rfl
     have c102 := st105.rowCel (i := 0) rfl
     refine WL.nil ?_
     exact oneQ.mk ⟨⟨o101, c102⟩, st105⟩
    ·intro vals ρ w107 X hd h0 st106
     have e108 : ρ 6 = (pt b35 0) := (h0 6 rfl).trans rfl
     refine W1 (OpT.field 10 ⟨b35, 0, none⟩ ⟨b35, 10, none⟩ tf61_4 e108 rfl ?_)
     refine WL.nil ?_
     exact oneQ.mk ⟨rfl, st106⟩
    ·intro vals ρ w110 X hd h0 st109
     have e111 : ρ 45 = (pt b35 10) := ((hd 11 rfl).2 45 rfl).trans (hd 11 rfl).1
     refine W1 (OpT.loadA ⟨b35, 10, none⟩ 6 [(.int .i8 (x24.right.op)), (.string x24.right.term.var), (.int .i8 (x24.right.term.val.kind)), (.int .i64 (x24.right.term.val.num)), (.string x24.right.term.val.text), rk31] ta59 ts59 e111 ((st109.rowB (i := 0) rfl).part 10 6) rfl ?_)
     refine WL.nil ?_
     exact oneQ.mk ⟨rfl, st109⟩
    ·intro vals ρ w113 X hd h0 st112
     have e114 : ρ 46 = (.agg #[(.int .i8 (x24.right.op)), (.string x24.right.term.var), (.int .i8 (x24.right.term.val.kind)), (.int .i64 (x24.right.term.val.num)), (.string x24.right.term.val.text), rk31]) := ((hd 12 rfl).2 46 rfl).trans (hd 12 rfl).1
     refine W1 (OpT.callS cal30 [] [] [(.agg #[(.int .i8 (x24.right.op)), (.string x24.right.term.var), (.int .i8 (x24.right.term.val.kind)), (.int .i64 (x24.right.term.val.num)), (.string x24.right.term.val.text), rk31])] rfl (ca1 e114) (ExprVars_spec st112 x24.right (by omega) _ hr34) ?_)
     rintro v117 w118 st119
     have o115 := st119.rowOne (i := 0) rfl
     have c116 := st119.rowCel (i := 0) rfl
     refine WL.nil ?_
     exact oneQ.mk ⟨⟨o115, c116⟩, st119⟩
    ·intro vals ρ w121 X hd h0 st120
     have e122 : ρ 38 = (.string (loneF x24.left)) := ((hd 4 rfl).2 38 rfl).trans (hd 4 rfl).1
     have e123 : ρ 41 = (.string (loneF x24.right)) := ((hd 7 rfl).2 41 rfl).trans (hd 7 rfl).1
     have o125 : (vals 10).oneCell' = true := (hd 10 rfl).1.1
     have c126 : (vals 10).cells = #[vals 10] := (hd 10 rfl).1.2
     have e124 : ρ 44 = (vals 10) := ((hd 10 rfl).2 44 rfl)
     have o128 : (vals 13).oneCell' = true := (hd 13 rfl).1.1
     have c129 : (vals 13).cells = #[vals 13] := (hd 13 rfl).1.2
     have e127 : ρ 47 = (vals 13) := ((hd 13 rfl).2 47 rfl)
     refine W1 (OpT.build [(0, (.string (loneF x24.left))), (1, (.string (loneF x24.right))), (2, (vals 10)), (3, (vals 13))] [(.string (loneF x24.left)), (.string (loneF x24.right)), (vals 10), (vals 13)] tz92 tp92 (mp4 e122 e123 e124 e127) (by simp [Instr.fill, c126, c129, Value.cells.eq_2, show ∀ cs, (Value.agg cs).cells = cs from fun _ => rfl]) ?_)
     refine WL.nil ?_
     exact oneQ.mk ⟨rfl, st120⟩
    ·intro vals ρ w131 X hd h0 st130
     have o133 : (vals 10).oneCell' = true := (hd 10 rfl).1.1
     have c134 : (vals 10).cells = #[vals 10] := (hd 10 rfl).1.2
     have o135 : (vals 13).oneCell' = true := (hd 13 rfl).1.1
     have c136 : (vals 13).cells = #[vals 13] := (hd 13 rfl).1.2
     have e132 : ρ 48 = (.agg #[(.string (loneF x24.left)), (.string (loneF x24.right)), (vals 10), (vals 13)]) := ((hd 14 rfl).2 48 rfl).trans (hd 14 rfl).1
     refine W1 (OpT.buildSlice st130 [(0, (.agg #[(.string (loneF x24.left)), (.string (loneF x24.right)), (vals 10), (vals 13)]))] [(.string (loneF x24.left)), (.string (loneF x24.right)), (vals 10), (vals 13)] tu84 ts92 tz92 (mp1 e132) (by kernel_rfl) (by decide) (fun b137 w138 st139 => ?_))
     refine WL.nil ?_
     exact oneQ.mk ⟨rfl, st139⟩
    intro vals ρ142 w141 hv h0 st140
    replace st140 : St Z1 w1 w141 (Row 9 1 (vals 10) (addVars [] (expT x24.left)).length ((addVars [] (expT x24.left)).map Value.string) :: Row 9 1 (vals 13) (addVars [] (expT x24.right)).length ((addVars [] (expT x24.right)).map Value.string) :: Blk (bk (vals 15)) 92 [(.string (loneF x24.left)), (.string (loneF x24.right)), (vals 10), (vals 13)] :: Blk b35 61 [(.int .i8 (x24.kind)), (.string x24.atom.pred), av29, (.int .i8 (x24.rel)), (.int .i8 (x24.left.op)), (.string x24.left.term.var), (.int .i8 (x24.left.term.val.kind)), (.int .i64 (x24.left.term.val.num)), (.string x24.left.term.val.text), lk30, (.int .i8 (x24.right.op)), (.string x24.right.term.var), (.int .i8 (x24.right.term.val.kind)), (.int .i64 (x24.right.term.val.num)), (.string x24.right.term.val.text), rk31] :: Blk rb 86 [lf] :: Row 92 4 lf (limA (xs.take i)).1.length cs2 :: Blk fb 83 [lv2, (.map (some mb))] :: Row 9 1 lv2 ((limA (xs.take i)).2).length (((limA (xs.take i)).2).map Value.string) :: Mp Value.string (Value.int .i64) mb (fm ((limA (xs.take i)).2)) :: L) := st140
    have e143 : ρ142 3 = (pt fb 0) := (h0 3 rfl).trans hs18
    have e144 : ρ142 4 = (pt rb 0) := (h0 4 rfl).trans hs19
    have e145 : ρ142 10 = v := (h0 10 rfl).trans hs20
    have e146 : ρ142 11 = (ni (xs.length)) := (h0 11 rfl).trans hs21
    have e147 : ρ142 12 = (ni i) := (h0 12 rfl).trans hs17
    have e148 : ρ142 35 = lf := ((hv 1 rfl).2 35 rfl).trans (hv 1 rfl).1
    have o149 : (vals 10).oneCell' = true := (hv 10 rfl).1.1
    have c150 : (vals 10).cells = #[vals 10] := (hv 10 rfl).1.2
    have o151 : (vals 13).oneCell' = true := (hv 13 rfl).1.1
    have c152 : (vals 13).cells = #[vals 13] := (hv 13 rfl).1.2
    have e153 : ρ142 49 = (.slice (some ⟨(bk (vals 15)), 0, none⟩) 1 1) := ((hv 15 rfl).2 49 rfl).trans (hv 15 rfl).1
    have o154 : (vals 10).oneCell' = true := (hv 10 rfl).1.1
    have c155 : (vals 10).cells = #[vals 10] := (hv 10 rfl).1.2
    have o156 : (vals 13).oneCell' = true := (hv 13 rfl).1.1
    have c157 : (vals 13).cells = #[vals 13] := (hv 13 rfl).1.2
    clear hv h0
    generalize bk (vals 15) = b158 at *
    generalize vals 10 = v159 at *
    generalize vals 13 = v160 at *
    have st161 : St Z1 w1 w141 (Blk b158 92 [(.string (loneF x24.left)), (.string (loneF x24.right)), v159, v160] :: Row 92 4 lf (limA (xs.take i)).1.length cs2 :: Row 9 1 v159 (addVars [] (expT x24.left)).length ((addVars [] (expT x24.left)).map Value.string) :: Row 9 1 v160 (addVars [] (expT x24.right)).length ((addVars [] (expT x24.right)).map Value.string) :: Blk b35 61 [(.int .i8 (x24.kind)), (.string x24.atom.pred), av29, (.int .i8 (x24.rel)), (.int .i8 (x24.left.op)), (.string x24.left.term.var), (.int .i8 (x24.left.term.val.kind)), (.int .i64 (x24.left.term.val.num)), (.string x24.left.term.val.text), lk30, (.int .i8 (x24.right.op)), (.string x24.right.term.var), (.int .i8 (x24.right.term.val.kind)), (.int .i64 (x24.right.term.val.num)), (.string x24.right.term.val.text), rk31] :: Blk rb 86 [lf] :: Blk fb 83 [lv2, (.map (some mb))] :: Row 9 1 lv2 ((limA (xs.take i)).2).length (((limA (xs.take i)).2).map Value.string) :: Mp Value.string (Value.int .i64) mb (fm ((limA (xs.take i)).2)) :: L) := St.selT [Row 9 1 v159 (addVars [] (expT x24.left)).length ((addVars [] (expT x24.left)).map Value.string), Row 9 1 v160 (addVars [] (expT x24.right)).length ((addVars [] (expT x24.right)).map Value.string), Blk b158 92 [(.string (loneF x24.left)), (.string (loneF x24.right)), v159, v160], Blk b35 61 [(.int .i8 (x24.kind)), (.string x24.atom.pred), av29, (.int .i8 (x24.rel)), (.int .i8 (x24.left.op)), (.string x24.left.term.var), (.int .i8 (x24.left.term.val.kind)), (.int .i64 (x24.left.term.val.num)), (.string x24.left.term.val.text), lk30, (.int .i8 (x24.right.op)), (.string x24.right.term.var), (.int .i8 (x24.right.term.val.kind)), (.int .i64 (x24.right.term.val.num)), (.string x24.right.term.val.text), rk31], Blk rb 86 [lf], Row 92 4 lf (limA (xs.take i)).1.length cs2, Blk fb 83 [lv2, (.map (some mb))], Row 9 1 lv2 ((limA (xs.take i)).2).length (((limA (xs.take i)).2).map Value.string), Mp Value.string (Value.int .i64) mb (fm ((limA (xs.take i)).2))] [2, 5, 0, 1, 3, 4, 6, 7, 8] rfl (by decide) st140
    refine W1 (OpT.append st161 1 tu84 ts92 tz92 rfl tb92 (by decide) e148 e153 rfl (aC rfl (aC rfl (aC o154 (aC o156 aN)))) (by omega) (by omega) (fun v162 w163 st164 hn165 => ?_))
    have o166 := st164.rowOne (i := 0) rfl
    have c167 := st164.rowCel (i := 0) rfl
    refine W1 (OpT.field 0 ⟨rb, 0, none⟩ ⟨rb, 0, none⟩ tf86_0 e144 rfl ?_)
    refine WL.stepN (OpT.storeS st164 4 v162 rfl ts84 rfl rfl o166 c167 rfl (fun w168 st169 => ?_))
    refine WL.nil ?_
    refine blkQ_n ?_
    refine blkQ_n ?_
    refine thenQ_n ?_
    refine WC.region ?_
    refine W1 (OpT.iadd .i64 (((i : Nat) : Int)) (1) (((i + 1 : Nat) : Int)) e147 rfl (wadd (a := i) (b := 1) (by omega)) ?_)
    refine W1 (OpT.move (ni (i + 1)) rfl ?_)
    refine WL.nil ?_
    have e171 := lim_eqn hx24 h40 (by omega)
    obtain ⟨Z174, hx176, g172, st178⟩ := St.freezeRow (r := rStr) ((St.selT [Row 92 4 v162 ((limA (xs.take i)).1.length + 1) (cs2 ++ [(.string (loneF x24.left)), (.string (loneF x24.right)), v159, v160]), Row 9 1 v159 (addVars [] (expT x24.left)).length ((addVars [] (expT x24.left)).map Value.string), Row 9 1 v160 (addVars [] (expT x24.right)).length ((addVars [] (expT x24.right)).map Value.string), Blk b35 61 [(.int .i8 (x24.kind)), (.string x24.atom.pred), av29, (.int .i8 (x24.rel)), (.int .i8 (x24.left.op)), (.string x24.left.term.var), (.int .i8 (x24.left.term.val.kind)), (.int .i64 (x24.left.term.val.num)), (.string x24.left.term.val.text), lk30, (.int .i8 (x24.right.op)), (.string x24.right.term.var), (.int .i8 (x24.right.term.val.kind)), (.int .i64 (x24.right.term.val.num)), (.string x24.right.term.val.text), rk31], Blk rb 86 [v162], Blk fb 83 [lv2, (.map (some mb))], Row 9 1 lv2 ((limA (xs.take i)).2).length (((limA (xs.take i)).2).map Value.string), Mp Value.string (Value.int .i64) mb (fm ((limA (xs.take i)).2))] [1, 2, 4, 0, 5, 6, 7] rfl (by decide) st169) : St Z1 w1 w168 (Row 9 1 v159 (addVars [] (expT x24.left)).length ((addVars [] (expT x24.left)).map Value.string) :: Row 9 1 v160 (addVars [] (expT x24.right)).length ((addVars [] (expT x24.right)).map Value.string) :: Blk rb 86 [v162] :: Row 92 4 v162 ((limA (xs.take i)).1.length + 1) (cs2 ++ [(.string (loneF x24.left)), (.string (loneF x24.right)), v159, v160]) :: Blk fb 83 [lv2, (.map (some mb))] :: Row 9 1 lv2 ((limA (xs.take i)).2).length (((limA (xs.take i)).2).map Value.string) :: Mp Value.string (Value.int .i64) mb (fm ((limA (xs.take i)).2)) :: L)) (by omega) str_at
    obtain ⟨Z175, hx177, g173, st179⟩ := St.freezeRow (r := rStr) st178 (by omega) str_at
    have st170 : St Z175 w168 w168 (Blk rb 86 [v162] :: Row 92 4 v162 (limA (xs.take (i + 1))).1.length (cs2 ++ [(.string (loneF x24.left)), (.string (loneF x24.right)), v159, v160]) :: Blk fb 83 [lv2, (.map (some mb))] :: Row 9 1 lv2 ((limA (xs.take (i + 1))).2).length (((limA (xs.take (i + 1))).2).map Value.string) :: Mp Value.string (Value.int .i64) mb (fm ((limA (xs.take (i + 1))).2)) :: L) := by rw [e171]; simp only [List.length_append, List.length_cons, List.length_nil]; exact st179
    exact loopQ_n _ (by omega) ⟨i + 1, Z175, w168, lv2, v162, (cs2 ++ [(.string (loneF x24.left)), (.string (loneF x24.right)), v159, v160]), rfl, by omega, (hxx.trans (hx176.trans hx177)), by rw [e171]; exact ((RowsOf.ext (hx176.trans hx177) HR).snoc rfl ⟨_, _, rfl, hx177.sl g172, g173⟩), rfl, e143, e144, e145, e146, st170⟩
   refine WC.skip ?_
   refine blkQ_n ?_
   refine blkQ_n ?_
   refine thenQ_n ?_
   refine WC.region ?_
   refine W1 (OpT.iadd .i64 (((i : Nat) : Int)) (1) (((i + 1 : Nat) : Int)) hs17 rfl (wadd (a := i) (b := 1) (by omega)) ?_)
   refine W1 (OpT.move (ni (i + 1)) rfl ?_)
   refine WL.nil ?_
   have e181 := lim_no hx24 h40 (by omega)
   have st180 : St Z1 w1 w38 (Blk rb 86 [lf] :: Row 92 4 lf (limA (xs.take (i + 1))).1.length cs2 :: Blk fb 83 [lv2, (.map (some mb))] :: Row 9 1 lv2 ((limA (xs.take (i + 1))).2).length (((limA (xs.take (i + 1))).2).map Value.string) :: Mp Value.string (Value.int .i64) mb (fm ((limA (xs.take (i + 1))).2)) :: L) := by rw [e181]; exact (St.selT [Blk b35 61 [(.int .i8 (x24.kind)), (.string x24.atom.pred), av29, (.int .i8 (x24.rel)), (.int .i8 (x24.left.op)), (.string x24.left.term.var), (.int .i8 (x24.left.term.val.kind)), (.int .i64 (x24.left.term.val.num)), (.string x24.left.term.val.text), lk30, (.int .i8 (x24.right.op)), (.string x24.right.term.var), (.int .i8 (x24.right.term.val.kind)), (.int .i64 (x24.right.term.val.num)), (.string x24.right.term.val.text), rk31], Blk rb 86 [lf], Row 92 4 lf (limA (xs.take i)).1.length cs2, Blk fb 83 [lv2, (.map (some mb))], Row 9 1 lv2 ((limA (xs.take i)).2).length (((limA (xs.take i)).2).map Value.string), Mp Value.string (Value.int .i64) mb (fm ((limA (xs.take i)).2))] [1, 2, 3, 4, 5] rfl (by decide) st39)
   exact loopQ_n _ (by omega) ⟨i + 1, Z1, w1, lv2, lf, cs2, rfl, by omega, hxx, by rw [e181]; exact HR, rfl, hs18, hs19, hs20, hs21, st180⟩
  refine WL.pass (dj := 29) (c := false) rfl rfl rfl (bF h60) rfl ?_
  refine WL.pass (dj := 29) (c := false) rfl rfl rfl (bF h60) rfl ?_
  refine WL.pass (dj := 29) (c := false) rfl rfl rfl (bF h60) rfl ?_
  refine W1 (OpT.pickF (.bool false) (bF h60) rfl ?_)
  refine W1 (OpT.assign (.bool false) rfl ?_)
  refine Wnt ?_
  refine WC.condF rfl ?_
  refine WC.skip ?_
  refine blkQ_n ?_
  refine blkQ_n ?_
  refine thenQ_n ?_
  refine WC.region ?_
  refine W1 (OpT.iadd .i64 (((i : Nat) : Int)) (1) (((i + 1 : Nat) : Int)) hs17 rfl (wadd (a := i) (b := 1) (by omega)) ?_)
  refine W1 (OpT.move (ni (i + 1)) rfl ?_)
  refine WL.nil ?_
  have e183 := lim_no hx24 h40 (by omega)
  have st182 : St Z1 w1 w38 (Blk rb 86 [lf] :: Row 92 4 lf (limA (xs.take (i + 1))).1.length cs2 :: Blk fb 83 [lv2, (.map (some mb))] :: Row 9 1 lv2 ((limA (xs.take (i + 1))).2).length (((limA (xs.take (i + 1))).2).map Value.string) :: Mp Value.string (Value.int .i64) mb (fm ((limA (xs.take (i + 1))).2)) :: L) := by rw [e183]; exact (St.selT [Blk b35 61 [(.int .i8 (x24.kind)), (.string x24.atom.pred), av29, (.int .i8 (x24.rel)), (.int .i8 (x24.left.op)), (.string x24.left.term.var), (.int .i8 (x24.left.term.val.kind)), (.int .i64 (x24.left.term.val.num)), (.string x24.left.term.val.text), lk30, (.int .i8 (x24.right.op)), (.string x24.right.term.var), (.int .i8 (x24.right.term.val.kind)), (.int .i64 (x24.right.term.val.num)), (.string x24.right.term.val.text), rk31], Blk rb 86 [lf], Row 92 4 lf (limA (xs.take i)).1.length cs2, Blk fb 83 [lv2, (.map (some mb))], Row 9 1 lv2 ((limA (xs.take i)).2).length (((limA (xs.take i)).2).map Value.string), Mp Value.string (Value.int .i64) mb (fm ((limA (xs.take i)).2))] [1, 2, 3, 4, 5] rfl (by decide) st39)
  exact loopQ_n _ (by omega) ⟨i + 1, Z1, w1, lv2, lf, cs2, rfl, by omega, hxx, by rw [e183]; exact HR, rfl, hs18, hs19, hs20, hs21, st182⟩
 refine WC.exit ?_
 refine thenQ_x ?_
 refine loopQ_x ?_
 refine blkQ_hit ?_
 refine thenQ_n ?_
 refine WC.seq ?_
 refine WC.block ?_
 have eT : xs.take i = xs := List.take_of_length_le (by omega)
 rw [show (xs.take i).flatMap ltrT = xs.flatMap ltrT from by rw [eT]] at hal
 refine WC.loop (fun m ρ wz => ∃ (eqs : List Eqn), ∃ (l : List ByteArray), ∃ (Z2 : Nat → Prop), ∃ (w2 : World), ∃ (rv : Value), ∃ (cs3 : List Value), ∃ (lv3 : Value), m = eqs.length ∧ Ext Z w0 Z2 w2 ∧ RowsOf (rEqn.R Z2 w2) 4 cs3 eqs ∧ limR (eqs.length + 1) eqs l = limF xs ∧ eqs.length + l.length ≤ (xs.flatMap ltrT).length ∧ ρ 3 = (pt fb 0) ∧ ρ 4 = (pt rb 0) ∧ St Z2 w2 wz (Blk rb 86 [rv] :: Row 92 4 rv eqs.length cs3 :: Blk fb 83 [lv3, (.map (some mb))] :: Row 9 1 lv3 l.length (l.map Value.string) :: Mp Value.string (Value.int .i64) mb (fm l) :: L)) _ ⟨(limA (xs.take i)).1, (limA (xs.take i)).2, Z1, w1, lf, cs2, lv2, rfl, hxx, HR, by rw [eT, limF], by omega, hs18, hs19, st15⟩ ?_
 rintro m184 ρ185 w186 ⟨eqs, l, Z2, w2, rv, cs3, lv3, hm190, hxy, HE, HT, HB, hs188, hs189, st187⟩
 refine WC.seq ?_
 refine Wsr ?_
 refine W1 (OpT.move (pt fb 0) hs188 ?_)
 refine W1 (OpT.makeFunc [(pt fb 0)] [] (mk1 rfl) mk0 ?_)
 refine W1 (OpT.callS cal31 [] [] [(pt rb 0), (.func (.func 32) #[(pt fb 0)] #[])] rfl (ca2 hs189 rfl) (round_spec st187 HE (by omega)) ?_)
 rintro v198 w199 ⟨Z191, w192, rv193, cs194, lv195, hx196, rfl, st200, HE197⟩
 have hrs := rndF_sum eqs l
 refine Wnt ?_
 refine WC.condP (((rndF eqs l).1.length : Int) < (eqs.length : Int)) rfl (fun h201 => ?_) (fun h201 => ?_)
 ·refine WC.skip ?_
  refine thenQ_n ?_
  refine WC.block ?_
  refine WC.skip ?_
  refine blkQ_n ?_
  exact loopQ_n _ (by omega) ⟨(rndF eqs l).1, (rndF eqs l).2, Z191, w192, rv193, cs194, lv195, rfl, hxy.trans hx196, HE197, by rw [← limR_go h201]; exact HT, by omega, hs188, hs189, st200⟩
 refine WC.exit ?_
 refine thenQ_x ?_
 refine loopQ_x ?_
 refine blkQ_hit ?_
 refine thenQ_n ?_
 refine Wsr ?_
 refine W1 (OpT.move (pt fb 0) hs188 ?_)
 refine W1 (OpT.assign (pt fb 0) rfl ?_)
 refine Wnt ?_
 refine WC.ret <| retQ.one (pt fb 0) rfl ?_
 rw [limR_end h201] at HT
 exact ⟨_, rfl, rfl, rfl, by rw [← HT]; exact (hxy.trans hx196).back (Fnd.shut (St.selT [Blk rb 86 [rv193], Row 92 4 rv193 (rndF eqs l).1.length cs194, Blk fb 83 [lv195, (.map (some mb))], Row 9 1 lv195 ((rndF eqs l).2).length (((rndF eqs l).2).map Value.string), Mp Value.string (Value.int .i64) mb (fm ((rndF eqs l).2))] [2, 3, 4] rfl (by decide) st200))⟩

end Go.Ped
