/- Edges, by parts. -/
import Derived.Test.YtojkakpkmfopbaaEngJ
import Derived.Test.YtojkakpkmfopbaaF10
set_option linter.unusedVariables false
set_option maxRecDepth 20000
namespace Go.Ped
open Go Go.Eng Go.RowKit Go.Proofs

theorem cal25 : CallOk Try.prog 25 := ⟨⟨Try.f25, Try.func25, rfl, by decide⟩⟩
theorem cal24 : CallOk Try.prog 24 := ⟨⟨Try.f24, Try.func24, rfl, by decide⟩⟩
theorem aggregates1_spec {Z : Nat → Prop} {w0 w : World} {L : List Res} (st : St Z w0 w L) (a : Agr) : Calls Try.prog 25 #[(.agg #[(.int .i8 (a.agg)), (.string a.term.var), (.int .i8 (a.term.val.kind)), (.int .i64 (a.term.val.num)), (.string a.term.val.text)])] w (Ret fun r w' => r = .bool (decide (a.agg ≠ 0)) ∧ St Z w0 w' L) := by
 refine calls_of_WC (m := 6) (rs := [.tmp 2]) Try.func25 rfl rfl rfl rfl ?_
 refine Wsr ?_
 refine W1 (OpT.box st (.agg #[(.int .i8 (a.agg)), (.string a.term.var), (.int .i8 (a.term.val.kind)), (.int .i64 (a.term.val.num)), (.string a.term.val.text)]) [(.int .i8 (a.agg)), (.string a.term.var), (.int .i8 (a.term.val.kind)), (.int .i64 (a.term.val.num)), (.string a.term.val.text)] rfl rfl (fun b1 w2 st3 => ?_))
 refine W1 (OpT.assign (.bool false) rfl ?_)
 refine Wns ?_
 refine W1 (OpT.field 0 ⟨b1, 0, none⟩ ⟨b1, 0, none⟩ tf40_0 rfl rfl ?_)
 refine W1 (OpT.loadS ⟨b1, 0, none⟩ (.int .i8 (a.agg)) ta33 rfl (st3.cellB (i := 0) rfl rfl) ?_)
 refine W1 (OpT.ine .i8 (a.agg) (0) rfl rfl ?_)
 refine W1 (OpT.assign (.bool (decide (a.agg ≠ 0))) rfl ?_)
 refine Wnt ?_
 refine WC.ret <| retQ.one (.bool (decide (a.agg ≠ 0))) rfl ?_
 exact ⟨_, rfl, rfl, (St.selT [Blk b1 40 [(.int .i8 (a.agg)), (.string a.term.var), (.int .i8 (a.term.val.kind)), (.int .i64 (a.term.val.num)), (.string a.term.val.text)]] [] rfl (by decide) st3)⟩

def aggsB (r : Rul) : Bool := r.head.any fun a => decide (a.agg ≠ 0)
theorem aggregates_spec {Z : Nat → Prop} {w0 w : World} {L : List Res} (st : St Z w0 w L) (r : Rul) (av bv : Value) (ha : rAgr.sl Z w0 av r.head) (hb : rLtr.sl Z w0 bv r.body) : Calls Try.prog 11 #[(.agg #[(.string r.pred), av, bv])] w (Ret fun v w' => v = .bool (aggsB r) ∧ St Z w0 w' L) := by
 refine calls_of_WC (m := 6) (rs := [.tmp 2]) Try.func11 rfl rfl rfl rfl ?_
 refine Wsr ?_
 refine W1 (OpT.box st (.agg #[(.string r.pred), av, bv]) [(.string r.pred), av, bv] rfl rfl (fun b1 w2 st3 => ?_))
 refine W1 (OpT.assign (.bool false) rfl ?_)
 refine Wns ?_
 refine W1 (OpT.field 1 ⟨b1, 0, none⟩ ⟨b1, 1, none⟩ tf31_1 rfl rfl ?_)
 refine W1 (OpT.loadS ⟨b1, 1, none⟩ av ta28 rfl (st3.cellB (i := 0) rfl rfl) ?_)
 refine W1 (OpT.callS cal24 [] [] [av, (.func (.func 25) #[] #[])] rfl (ca2 rfl rfl) (ContainsFunc_Agr st3 ha 25 cal25 [] (fun a => decide (a.agg ≠ 0)) (fun w' cs x hx st' hR => by obtain rfl := hR; exact aggregates1_spec st' x)) ?_)
 rintro v4 w5 ⟨rfl, st6⟩
 refine W1 (OpT.assign (.bool (aggsB r)) rfl ?_)
 refine Wnt ?_
 refine WC.ret <| retQ.one (.bool (aggsB r)) rfl ?_
 exact ⟨_, rfl, rfl, (St.selT [Blk b1 31 [(.string r.pred), av, bv]] [] rfl (by decide) st6)⟩

def isAtm (x : Ltr) : Bool := decide (x.kind = 1) || decide (x.kind = 2)
def fld {β : Type} (f : β → Ltr → β) (b : β) (xs : List Ltr) : β := (xs.filter isAtm).foldl f b
theorem fld_in {β : Type} (f : β → Ltr → β) (b : β) {xs : List Ltr} {i : Nat} {x : Ltr} (hx : xs[i]? = some x) (h : isAtm x = true) : fld f b (xs.take (i + 1)) = f (fld f b (xs.take i)) x := by
  rw [List.take_add_one, hx, fld, fld, List.filter_append, List.foldl_append]; simp [h]
theorem fld_out {β : Type} (f : β → Ltr → β) (b : β) {xs : List Ltr} {i : Nat} {x : Ltr} (hx : xs[i]? = some x) (h : isAtm x = false) : fld f b (xs.take (i + 1)) = fld f b (xs.take i) := by
  rw [List.take_add_one, hx, fld, fld, List.filter_append, List.foldl_append]; simp [h]
theorem atoms_spec {Z : Nat → Prop} {w0 w : World} {L : List Res} {β : Type} (J : β → Value → List Res) (f : β → Ltr → β) (b : β) (lv : Value) (st : St Z w0 w (J b lv ++ L)) (v : Value) (xs : List Ltr) (hv : rLtr.sl Z w0 v xs) (k : Nat) (ok : CallOk Try.prog k) (cap : List Value) (hp : ∀ (L' : List Res) (w' : World) (i : Nat) (x : Ltr) (lv : Value), xs[i]? = some x → isAtm x = true → ∀ {cs : List Value}, rLtr.R Z w0 cs x → St Z w0 w' (J (fld f b (xs.take i)) lv ++ L') → Calls Try.prog k (.agg cs.toArray :: cap).toArray w' (Ret fun r w'' => r = .tuple #[] ∧ ∃ lv', St Z w0 w'' (J (f (fld f b (xs.take i)) x) lv' ++ L'))) : Calls Try.prog 12 #[v, (.func (.func k) #[] (cap).toArray)] w (Ret fun r w' => r = .tuple #[] ∧ ∃ lv', St Z w0 w' (J (fld f b xs) lv' ++ L)) := by
 have hal := Rl.sl_le hv
 refine calls_of_WC (m := 24) (rs := []) Try.func12 rfl rfl rfl rfl ?_
 refine Wsr ?_
 refine W1 (OpT.move v rfl ?_)
 refine W1 (OpT.lenR rfl tu29 hv rfl ?_)
 refine W1 (OpT.move (ii 0) rfl ?_)
 refine Wnt ?_
 refine WC.block ?_
 refine WC.loop (fun m ρ wz => ∃ (i : Nat), ∃ (lv2 : Value), m = xs.length - i ∧ i ≤ xs.length ∧ ρ 8 = (ni i) ∧ ρ 1 = (.func (.func k) #[] (cap).toArray) ∧ ρ 6 = v ∧ ρ 7 = (ni (xs.length)) ∧ St Z w0 wz ((J (fld f b (xs.take i)) lv2 ++ L))) _ ⟨0, lv, rfl, by omega, rfl, rfl, rfl, rfl, st⟩ ?_
 rintro m1 ρ2 w3 ⟨i, lv2, hm10, hp5, hs6, hs7, hs8, hs9, st4⟩
 refine Wsr ?_
 refine W1 (OpT.ilt .i64 (((i : Nat) : Int)) (((xs.length : Nat) : Int)) hs6 hs9 ?_)
 refine Wnt ?_
 refine WC.seq ?_
 refine WC.condP (((i : Nat) : Int) < ((xs.length : Nat) : Int)) rfl (fun h11 => ?_) (fun h11 => ?_)
 ·refine WC.skip ?_
  refine thenQ_n ?_
  refine WC.seq ?_
  refine WC.block ?_
  refine Wsr ?_
  obtain ⟨x12, hx12⟩ : ∃ x, (xs)[i]? = some x := ⟨_, List.getElem?_eq_getElem (by omega)⟩
  refine W1 (OpT.idxX tu29 ts61 hv hs8 .i64 (i) hs6 hx12 (fun ad13 cs14 hr15 hR16 => ?_))
  have hR16c := hR16
  obtain ⟨av17, lk18, rk19, rfl, ha20, hl21, hr22⟩ := hR16
  refine W1 (OpT.loadA ad13 16 [(.int .i8 (x12.kind)), (.string x12.atom.pred), av17, (.int .i8 (x12.rel)), (.int .i8 (x12.left.op)), (.string x12.left.term.var), (.int .i8 (x12.left.term.val.kind)), (.int .i64 (x12.left.term.val.num)), (.string x12.left.term.val.text), lk18, (.int .i8 (x12.right.op)), (.string x12.right.term.var), (.int .i8 (x12.right.term.val.kind)), (.int .i64 (x12.right.term.val.num)), (.string x12.right.term.val.text), rk19] ta61 ts61 rfl ((hr15.at st4).part 0 16) rfl ?_)
  refine W1 (OpT.alloc st4 (.agg #[(.int .i8 (0)), ve, vn, (.int .i8 (0)), (.int .i8 (0)), ve, (.int .i8 (0)), (ii 0), ve, vn, (.int .i8 (0)), ve, (.int .i8 (0)), (ii 0), ve, vn]) [(.int .i8 (0)), ve, vn, (.int .i8 (0)), (.int .i8 (0)), ve, (.int .i8 (0)), (ii 0), ve, vn, (.int .i8 (0)), ve, (.int .i8 (0)), (ii 0), ve, vn] tz61 rfl (fun b23 w24 st25 => ?_))
  refine WL.stepN (OpT.storeA st25 0 16 [(.int .i8 (x12.kind)), (.string x12.atom.pred), av17, (.int .i8 (x12.rel)), (.int .i8 (x12.left.op)), (.string x12.left.term.var), (.int .i8 (x12.left.term.val.kind)), (.int .i64 (x12.left.term.val.num)), (.string x12.left.term.val.text), lk18, (.int .i8 (x12.right.op)), (.string x12.right.term.var), (.int .i8 (x12.right.term.val.kind)), (.int .i64 (x12.right.term.val.num)), (.string x12.right.term.val.text), rk19] rfl ts61 rfl rfl (aC rfl (aC rfl (aC (Rl.sl_one ha20) (aC rfl (aC rfl (aC rfl (aC rfl (aC rfl (aC rfl (aC (Rl.sl_one hl21) (aC rfl (aC rfl (aC rfl (aC rfl (aC rfl (aC (Rl.sl_one hr22) aN)))))))))))))))) rfl rfl (fun w26 st27 => ?_))
  refine Wns ?_
  refine W1 (OpT.field 0 ⟨b23, 0, none⟩ ⟨b23, 0, none⟩ tf61_0 rfl rfl ?_)
  refine W1 (OpT.loadS ⟨b23, 0, none⟩ (.int .i8 (x12.kind)) ta51 rfl (st27.cellB (i := 0) rfl rfl) ?_)
  refine W1 (OpT.ieq .i8 (x12.kind) (1) rfl rfl ?_)
  refine W1 (OpT.move (.bool (decide (x12.kind = 1))) rfl ?_)
  by_cases h28 : x12.kind = 1
  ·refine WL.pass (dj := 15) (c := true) rfl rfl rfl (bT h28) rfl ?_
   refine WL.pass (dj := 15) (c := true) rfl rfl rfl (bT h28) rfl ?_
   refine WL.pass (dj := 15) (c := true) rfl rfl rfl (bT h28) rfl ?_
   refine W1 (OpT.pickT (.bool true) (bT h28) rfl ?_)
   refine Wnt ?_
   refine WC.condT rfl ?_
   refine WC.region ?_
   refine W1 (OpT.move (.func (.func k) #[] (cap).toArray) hs7 ?_)
   refine W1 (OpT.loadA ⟨b23, 0, none⟩ 16 [(.int .i8 (x12.kind)), (.string x12.atom.pred), av17, (.int .i8 (x12.rel)), (.int .i8 (x12.left.op)), (.string x12.left.term.var), (.int .i8 (x12.left.term.val.kind)), (.int .i64 (x12.left.term.val.num)), (.string x12.left.term.val.text), lk18, (.int .i8 (x12.right.op)), (.string x12.right.term.var), (.int .i8 (x12.right.term.val.kind)), (.int .i64 (x12.right.term.val.num)), (.string x12.right.term.val.text), rk19] ta61 ts61 rfl ((st27.rowB (i := 0) rfl).part 0 16) rfl ?_)
   refine W1 (OpT.callS ok [] cap ((.agg #[(.int .i8 (x12.kind)), (.string x12.atom.pred), av17, (.int .i8 (x12.rel)), (.int .i8 (x12.left.op)), (.string x12.left.term.var), (.int .i8 (x12.left.term.val.kind)), (.int .i64 (x12.left.term.val.num)), (.string x12.left.term.val.text), lk18, (.int .i8 (x12.right.op)), (.string x12.right.term.var), (.int .i8 (x12.right.term.val.kind)), (.int .i64 (x12.right.term.val.num)), (.string x12.right.term.val.text), rk19]) :: cap) rfl (ca1 rfl) (hp _ _ i x12 lv2 hx12 (by simp [isAtm, *]) ⟨_, _, _, rfl, ha20, hl21, hr22⟩ (St.perm (List.perm_middle (l₁ := J (fld f b (xs.take i)) lv2)).symm st27)) ?_)
   rintro v29 w30 ⟨rfl, lv32, st31⟩
   replace st31 := (St.perm List.perm_middle st31).tl
   refine WL.nil ?_
   refine blkQ_n ?_
   refine thenQ_n ?_
   refine WC.region ?_
   refine W1 (OpT.iadd .i64 (((i : Nat) : Int)) (1) (((i + 1 : Nat) : Int)) hs6 rfl (wadd (a := i) (b := 1) (by omega)) ?_)
   refine W1 (OpT.move (ni (i + 1)) rfl ?_)
   refine WL.nil ?_
   rw [← fld_in f b hx12 (by simp [isAtm, *])] at st31
   exact loopQ_n _ (by omega) ⟨i + 1, lv32, rfl, by omega, rfl, hs7, hs8, hs9, st31⟩
  refine W2 (dj := 15) (bF h28) (OpT.field 0 ⟨b23, 0, none⟩ ⟨b23, 0, none⟩ tf61_0 rfl rfl ?_)
  refine W2 (dj := 15) (bF h28) (OpT.loadS ⟨b23, 0, none⟩ (.int .i8 (x12.kind)) ta51 rfl (st27.cellB (i := 0) rfl rfl) ?_)
  refine W2 (dj := 15) (bF h28) (OpT.ieq .i8 (x12.kind) (2) rfl rfl ?_)
  refine W1 (OpT.pickF (.bool (decide (x12.kind = 2))) (bF h28) rfl ?_)
  refine Wnt ?_
  refine WC.condP (x12.kind = 2) rfl (fun h33 => ?_) (fun h33 => ?_)
  ·refine WC.region ?_
   refine W1 (OpT.move (.func (.func k) #[] (cap).toArray) hs7 ?_)
   refine W1 (OpT.loadA ⟨b23, 0, none⟩ 16 [(.int .i8 (x12.kind)), (.string x12.atom.pred), av17, (.int .i8 (x12.rel)), (.int .i8 (x12.left.op)), (.string x12.left.term.var), (.int .i8 (x12.left.term.val.kind)), (.int .i64 (x12.left.term.val.num)), (.string x12.left.term.val.text), lk18, (.int .i8 (x12.right.op)), (.string x12.right.term.var), (.int .i8 (x12.right.term.val.kind)), (.int .i64 (x12.right.term.val.num)), (.string x12.right.term.val.text), rk19] ta61 ts61 rfl ((st27.rowB (i := 0) rfl).part 0 16) rfl ?_)
   refine W1 (OpT.callS ok [] cap ((.agg #[(.int .i8 (x12.kind)), (.string x12.atom.pred), av17, (.int .i8 (x12.rel)), (.int .i8 (x12.left.op)), (.string x12.left.term.var), (.int .i8 (x12.left.term.val.kind)), (.int .i64 (x12.left.term.val.num)), (.string x12.left.term.val.text), lk18, (.int .i8 (x12.right.op)), (.string x12.right.term.var), (.int .i8 (x12.right.term.val.kind)), (.int .i64 (x12.right.term.val.num)), (.string x12.right.term.val.text), rk19]) :: cap) rfl (ca1 rfl) (hp _ _ i x12 lv2 hx12 (by simp [isAtm, *]) ⟨_, _, _, rfl, ha20, hl21, hr22⟩ (St.perm (List.perm_middle (l₁ := J (fld f b (xs.take i)) lv2)).symm st27)) ?_)
   rintro v34 w35 ⟨rfl, lv37, st36⟩
   replace st36 := (St.perm List.perm_middle st36).tl
   refine WL.nil ?_
   refine blkQ_n ?_
   refine thenQ_n ?_
   refine WC.region ?_
   refine W1 (OpT.iadd .i64 (((i : Nat) : Int)) (1) (((i + 1 : Nat) : Int)) hs6 rfl (wadd (a := i) (b := 1) (by omega)) ?_)
   refine W1 (OpT.move (ni (i + 1)) rfl ?_)
   refine WL.nil ?_
   rw [← fld_in f b hx12 (by simp [isAtm, *])] at st36
   exact loopQ_n _ (by omega) ⟨i + 1, lv37, rfl, by omega, rfl, hs7, hs8, hs9, st36⟩
  refine WC.skip ?_
  refine blkQ_n ?_
  refine thenQ_n ?_
  refine WC.region ?_
  refine W1 (OpT.iadd .i64 (((i : Nat) : Int)) (1) (((i + 1 : Nat) : Int)) hs6 rfl (wadd (a := i) (b := 1) (by omega)) ?_)
  refine W1 (OpT.move (ni (i + 1)) rfl ?_)
  refine WL.nil ?_
  replace st27 := st27.tl
  rw [← fld_out f b hx12 (by simp [isAtm, *])] at st27
  exact loopQ_n _ (by omega) ⟨i + 1, lv2, rfl, by omega, rfl, hs7, hs8, hs9, st27⟩
 refine WC.exit ?_
 refine thenQ_x ?_
 refine loopQ_x ?_
 refine blkQ_hit ?_
 refine retQ.none (.inl rfl) ?_
 exact ⟨_, rfl, rfl, lv2, by rw [show xs = xs.take i from (List.take_of_length_le (by omega)).symm]; exact st4⟩

end Go.Ped
