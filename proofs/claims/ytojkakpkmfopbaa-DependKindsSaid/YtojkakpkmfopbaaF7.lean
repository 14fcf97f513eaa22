/- The walk over things. -/
import Derived.Test.YtojkakpkmfopbaaF6
set_option linter.unusedVariables false
set_option maxRecDepth 20000
namespace Go.Ped
open Go Go.Eng Go.RowKit Go.Proofs

theorem ti97 : (match Try.prog.underlying 97 with | some (.interface _) => false | some _ => true | none => false) = true := by kernel_rfl
theorem tz97 : zeroB Try.prog 97 = some (.pointer none) := by kernel_rfl
theorem ti138 : (match Try.prog.underlying 138 with | some (.interface _) => false | some _ => true | none => false) = true := by kernel_rfl
theorem tz138 : zeroB Try.prog 138 = some (.pointer none) := by kernel_rfl
theorem ti118 : (match Try.prog.underlying 118 with | some (.interface _) => false | some _ => true | none => false) = true := by kernel_rfl
theorem tz118 : zeroB Try.prog 118 = some (.pointer none) := by kernel_rfl
theorem ti117 : (match Try.prog.underlying 117 with | some (.interface _) => false | some _ => true | none => false) = true := by kernel_rfl
theorem cal47 : CallOk Try.prog 47 := ⟨⟨Try.f47, Try.func47, rfl, by decide⟩⟩
theorem cal46 : CallOk Try.prog 46 := ⟨⟨Try.f46, Try.func46, rfl, by decide⟩⟩
theorem tf31_1 : fieldB Try.prog 31 1 = some 1 := by kernel_rfl
theorem ta28 : aggB Try.prog 28 = some false := by kernel_rfl
theorem tf31_2 : fieldB Try.prog 31 2 = some 2 := by kernel_rfl
theorem ta29 : aggB Try.prog 29 = some false := by kernel_rfl
theorem tu29 : Try.prog.underlying 29 = some (.slice 61) := by kernel_rfl
theorem ts61 : sizeB Try.prog 61 = some 16 := by kernel_rfl
def addVars (l : List ByteArray) (ts : List Trm) : List ByteArray := ts.foldl (fun l t => addVar l t.var) l
mutual
def expT : Exp → List Trm
  | .mk _ t ks => t :: expsT ks
def expsT : List Exp → List Trm
  | [] => []
  | k :: ks => expT k ++ expsT ks
end
theorem expsT_eq : ∀ ks : List Exp, expsT ks = ks.flatMap expT
  | [] => rfl
  | k :: ks => by rw [expsT, expsT_eq ks]; rfl
theorem expT_eq (e : Exp) : expT e = e.term :: e.kids.flatMap expT := by cases e; rw [expT, expsT_eq]; rfl
def atmT (a : Atm) : List Trm := a.args.flatMap fun t => [t]
def ltrT (l : Ltr) : List Trm := atmT l.atom ++ (expT l.left ++ expT l.right)
def rulT (r : Rul) : List Trm := (r.head.flatMap fun a => [a.term]) ++ r.body.flatMap ltrT
theorem kid_lt {e x : Exp} {i : Nat} (hx : e.kids[i]? = some x) : SizeOf.sizeOf x < SizeOf.sizeOf e := by
  cases e with
  | mk o t ks =>
    have hx' : ks[i]? = some x := hx
    have := List.sizeOf_lt_of_mem (List.mem_of_getElem? hx')
    simp only [Exp.mk.sizeOf_spec]
    omega
theorem fl_step {α β : Type} (f : α → List β) {xs : List α} {i : Nat} {x : α} (hx : xs[i]? = some x) : (xs.take (i + 1)).flatMap f = (xs.take i).flatMap f ++ f x := by
  rw [List.take_add_one, hx]; simp
theorem fl_le {α β : Type} (f : α → List β) {xs : List α} {i : Nat} {x : α} (hx : xs[i]? = some x) : ((xs.take i).flatMap f).length + (f x).length ≤ (xs.flatMap f).length := by
  have h : xs.flatMap f = (xs.take (i + 1)).flatMap f ++ (xs.drop (i + 1)).flatMap f := by rw [← List.flatMap_append, List.take_append_drop]
  rw [h, fl_step f hx]; simp only [List.length_append]; omega
theorem addVars_app (l : List ByteArray) (a b : List Trm) : addVars (addVars l a) b = addVars l (a ++ b) := by simp [addVars]
theorem addVar_len (l : List ByteArray) (v : ByteArray) : (addVar l v).length ≤ l.length + 1 := by unfold addVar; split <;> simp
theorem addVars_len (l : List ByteArray) (ts : List Trm) : (addVars l ts).length ≤ l.length + ts.length := by
  unfold addVars
  induction ts generalizing l with
  | nil => simp
  | cons t ts ih => have := ih (addVar l t.var); have := addVar_len l t.var; simp only [List.foldl_cons, List.length_cons]; omega
theorem addVars_step {α : Type} (f : α → List Trm) {xs : List α} {i : Nat} {x : α} (hx : xs[i]? = some x) (l : List ByteArray) : addVars (addVars l ((xs.take i).flatMap f)) (f x) = addVars l ((xs.take (i + 1)).flatMap f) := by rw [addVars_app, fl_step f hx]
theorem addVars_all {α : Type} (f : α → List Trm) {xs : List α} {i : Nat} (hi : i ≤ xs.length) (h : ¬ (i : Int) < (xs.length : Int)) (l : List ByteArray) : addVars l ((xs.take i).flatMap f) = addVars l (xs.flatMap f) := by rw [List.take_of_length_le (by omega)]
theorem walk_Atm {Z : Nat → Prop} {w0 w : World} {L : List Res} {lb tb mb : Nat} {lv : Value} {l : List ByteArray} (st : St Z w0 w (VS lb tb mb lv l L)) (a : Atm) (hl : l.length + (atmT a).length < 1073741824) (ad : Addr) (av : Value) (hr : RowZ Z w0 ad [(.string a.pred), av]) (ha : rTrm.sl Z w0 av a.args) : Calls Try.prog 46 #[(.iface 117 (.pointer (some ad))), (.func (.func 47) #[] #[(pt tb 0), (pt lb 0)])] w (Ret fun r w' => r = .tuple #[] ∧ ∃ lv', St Z w0 w' (VS lb tb mb lv' (addVars l (atmT a)) L)) := by
 have hl2 : l.length + (a.args.flatMap fun t => [t]).length < 1073741824 := hl
 have hal := Rl.sl_le ha
 refine calls_of_WC (m := 119) (rs := []) Try.func46 rfl rfl rfl rfl ?_
 refine Wsr ?_
 refine W1 (OpT.move (.iface 117 (.pointer (some ad))) rfl ?_)
 refine Wnt ?_
 refine WC.block ?_
 refine Wsr ?_
 refine W1 (OpT.tassF 117 (.pointer (some ad)) ti97 tz97 rfl rfl ?_)
 refine W1 (OpT.extract [(.pointer none), (.bool false)] (.bool false) rfl rfl ?_)
 refine W1 (OpT.extract [(.pointer none), (.bool false)] (.pointer none) rfl rfl ?_)
 refine Wnt ?_
 refine WC.condF rfl ?_
 refine Wsr ?_
 refine W1 (OpT.tassF 117 (.pointer (some ad)) ti138 tz138 rfl rfl ?_)
 refine W1 (OpT.extract [(.pointer none), (.bool false)] (.bool false) rfl rfl ?_)
 refine W1 (OpT.extract [(.pointer none), (.bool false)] (.pointer none) rfl rfl ?_)
 refine Wnt ?_
 refine WC.condF rfl ?_
 refine Wsr ?_
 refine W1 (OpT.tassF 117 (.pointer (some ad)) ti118 tz118 rfl rfl ?_)
 refine W1 (OpT.extract [(.pointer none), (.bool false)] (.bool false) rfl rfl ?_)
 refine W1 (OpT.extract [(.pointer none), (.bool false)] (.pointer none) rfl rfl ?_)
 refine Wnt ?_
 refine WC.condF rfl ?_
 refine Wsr ?_
 refine W1 (OpT.tassT (.pointer (some ad)) ti117 rfl ?_)
 refine W1 (OpT.extract [(.pointer (some ad)), (.bool true)] (.bool true) rfl rfl ?_)
 refine W1 (OpT.extract [(.pointer (some ad)), (.bool true)] (.pointer (some ad)) rfl rfl ?_)
 refine Wnt ?_
 refine WC.condT rfl ?_
 refine Wsr ?_
 refine W1 (OpT.assign (.pointer (some ad)) rfl ?_)
 refine Wns ?_
 refine W1 (OpT.move (.pointer (some ad)) rfl ?_)
 refine W1 (OpT.nilc ad rfl ?_)
 refine W1 (OpT.field 1 ad (ad.add 1) tf54_1 rfl rfl ?_)
 refine W1 (OpT.loadS (ad.add 1) av ta52 rfl (hr.cell st (j := 1) rfl) ?_)
 refine W1 (OpT.lenR rfl tu52 ha rfl ?_)
 refine W1 (OpT.move (ii 0) rfl ?_)
 refine Wnt ?_
 refine WC.block ?_
 refine WC.loop (fun m ρ wz => ∃ (i : Nat), ∃ (lv2 : Value), m = a.args.length - i ∧ i ≤ a.args.length ∧ ρ 107 = (ni i) ∧ ρ 1 = (.func (.func 47) #[] #[(pt tb 0), (pt lb 0)]) ∧ ρ 10 = (.pointer (some ad)) ∧ ρ 106 = (ni (a.args.length)) ∧ St Z w0 wz (Blk lb 68 [lv2] :: Blk tb 81 [(.map (some mb))] :: Row 9 1 lv2 (addVars l ((a.args.take i).flatMap (fun t : Trm => [t]))).length ((addVars l ((a.args.take i).flatMap (fun t : Trm => [t]))).map Value.string) :: Mp Value.string (Value.int .i64) mb (fm (addVars l ((a.args.take i).flatMap (fun t : Trm => [t])))) :: L)) _ ⟨0, lv, rfl, by omega, rfl, rfl, rfl, rfl, st⟩ ?_
 rintro m1 ρ2 w3 ⟨i, lv2, hm10, hp5, hs6, hs7, hs8, hs9, st4⟩
 have hfl : ∀ x, a.args[i]? = some x → ((a.args.take i).flatMap (fun t : Trm => [t])).length + ((fun t : Trm => [t]) x).length ≤ (a.args.flatMap (fun t : Trm => [t])).length := fun x hx => fl_le _ hx
 refine Wsr ?_
 refine W1 (OpT.ilt .i64 (((i : Nat) : Int)) (((a.args.length : Nat) : Int)) hs6 hs9 ?_)
 refine Wnt ?_
 refine WC.seq ?_
 refine WC.condP (((i : Nat) : Int) < ((a.args.length : Nat) : Int)) rfl (fun h11 => ?_) (fun h11 => ?_)
 ·refine WC.skip ?_
  refine thenQ_n ?_
  refine WC.seq ?_
  refine WC.block ?_
  refine Wsr ?_
  refine W1 (OpT.move (ni i) hs6 ?_)
  refine W1 (OpT.assign (ni i) rfl ?_)
  refine Wnr ?_
  refine W1 (OpT.move (.func (.func 47) #[] #[(pt tb 0), (pt lb 0)]) hs7 ?_)
  refine W1 (OpT.move (.pointer (some ad)) hs8 ?_)
  refine W1 (OpT.nilc ad rfl ?_)
  refine W1 (OpT.field 1 ad (ad.add 1) tf54_1 rfl rfl ?_)
  refine W1 (OpT.loadS (ad.add 1) av ta52 rfl (hr.cell st4 (j := 1) rfl) ?_)
  refine W1 (OpT.move (ni i) rfl ?_)
  obtain ⟨x12, hx12⟩ : ∃ x, (a.args)[i]? = some x := ⟨_, List.getElem?_eq_getElem (by omega)⟩
  refine W1 (OpT.idxX tu52 ts38 ha rfl .i64 (i) rfl hx12 (fun ad13 cs14 hr15 hR16 => ?_))
  have hR16c := hR16
  obtain rfl := hR16
  refine W1 (OpT.callS cal47 [] [(pt tb 0), (pt lb 0)] [(.pointer (some ad13)), (pt tb 0), (pt lb 0)] rfl (ca1 rfl) (vars1_spec st4 (by have := hfl _ hx12; have := addVars_len l ((a.args.take i).flatMap (fun t : Trm => [t])); (try simp only [List.length_cons, List.length_nil] at *); omega) x12 ad13 hr15) ?_)
  rintro v18 w19 ⟨rfl, lv17, st20⟩
  replace st20 : St Z w0 w19 (VS lb tb mb lv17 (addVars (addVars l ((a.args.take i).flatMap (fun t : Trm => [t]))) [x12]) L) := st20
  refine WL.nil ?_
  refine blkQ_n ?_
  refine thenQ_n ?_
  refine WC.region ?_
  refine W1 (OpT.iadd .i64 (((i : Nat) : Int)) (1) (((i + 1 : Nat) : Int)) hs6 rfl (wadd (a := i) (b := 1) (by omega)) ?_)
  refine W1 (OpT.move (ni (i + 1)) rfl ?_)
  refine WL.nil ?_
  rw [show (addVars (addVars l ((a.args.take i).flatMap (fun t : Trm => [t]))) [x12]) = addVars l ((a.args.take (i + 1)).flatMap (fun t : Trm => [t])) from addVars_step (fun t : Trm => [t]) hx12 l] at st20
  exact loopQ_n _ (by omega) ⟨i + 1, lv17, rfl, by omega, rfl, hs7, hs8, hs9, st20⟩
 refine WC.exit ?_
 refine thenQ_x ?_
 refine loopQ_x ?_
 refine blkQ_hit ?_
 refine blkQ_n ?_
 refine retQ.none (.inl rfl) ?_
 rw [addVars_all (fun t : Trm => [t]) ‹i ≤ a.args.length› h11 l] at st4
 exact ⟨_, rfl, rfl, lv2, st4⟩

theorem walkE (n : Nat) (e : Exp) (he : SizeOf.sizeOf e ≤ n) (ih : ∀ x : Exp, SizeOf.sizeOf x < n → ∀ {Z : Nat → Prop} {w0 w : World} {L : List Res} {lb tb mb : Nat} {lv : Value} {l : List ByteArray} (_ : St Z w0 w (VS lb tb mb lv l L)) (_ : l.length + (expT x).length < 1073741824) (ad : Addr) (kv : Value) (_ : RowZ Z w0 ad [(.int .i8 (x.op)), (.string x.term.var), (.int .i8 (x.term.val.kind)), (.int .i64 (x.term.val.num)), (.string x.term.val.text), kv]) (_ : rExp.sl Z w0 kv x.kids), Calls Try.prog 46 #[(.iface 118 (.pointer (some ad))), (.func (.func 47) #[] #[(pt tb 0), (pt lb 0)])] w (Ret fun r w' => r = .tuple #[] ∧ ∃ lv', St Z w0 w' (VS lb tb mb lv' (addVars l (expT x)) L))) {Z : Nat → Prop} {w0 w : World} {L : List Res} {lb tb mb : Nat} {lv : Value} {l : List ByteArray} (st : St Z w0 w (VS lb tb mb lv l L)) (hl : l.length + (expT e).length < 1073741824) (ad : Addr) (kv : Value) (hr : RowZ Z w0 ad [(.int .i8 (e.op)), (.string e.term.var), (.int .i8 (e.term.val.kind)), (.int .i64 (e.term.val.num)), (.string e.term.val.text), kv]) (hk : rExp.sl Z w0 kv e.kids) : Calls Try.prog 46 #[(.iface 118 (.pointer (some ad))), (.func (.func 47) #[] #[(pt tb 0), (pt lb 0)])] w (Ret fun r w' => r = .tuple #[] ∧ ∃ lv', St Z w0 w' (VS lb tb mb lv' (addVars l (expT e)) L)) := by
 have hl2 : l.length + 1 + (e.kids.flatMap expT).length < 1073741824 := by rw [expT_eq] at hl; simp only [List.length_cons] at hl; omega
 have hal := Rl.sl_le hk
 refine calls_of_WC (m := 119) (rs := []) Try.func46 rfl rfl rfl rfl ?_
 refine Wsr ?_
 refine W1 (OpT.move (.iface 118 (.pointer (some ad))) rfl ?_)
 refine Wnt ?_
 refine WC.block ?_
 refine Wsr ?_
 refine W1 (OpT.tassF 118 (.pointer (some ad)) ti97 tz97 rfl rfl ?_)
 refine W1 (OpT.extract [(.pointer none), (.bool false)] (.bool false) rfl rfl ?_)
 refine W1 (OpT.extract [(.pointer none), (.bool false)] (.pointer none) rfl rfl ?_)
 refine Wnt ?_
 refine WC.condF rfl ?_
 refine Wsr ?_
 refine W1 (OpT.tassF 118 (.pointer (some ad)) ti138 tz138 rfl rfl ?_)
 refine W1 (OpT.extract [(.pointer none), (.bool false)] (.bool false) rfl rfl ?_)
 refine W1 (OpT.extract [(.pointer none), (.bool false)] (.pointer none) rfl rfl ?_)
 refine Wnt ?_
 refine WC.condF rfl ?_
 refine Wsr ?_
 refine W1 (OpT.tassT (.pointer (some ad)) ti118 rfl ?_)
 refine W1 (OpT.extract [(.pointer (some ad)), (.bool true)] (.bool true) rfl rfl ?_)
 refine W1 (OpT.extract [(.pointer (some ad)), (.bool true)] (.pointer (some ad)) rfl rfl ?_)
 refine Wnt ?_
 refine WC.condT rfl ?_
 refine Wsr ?_
 refine W1 (OpT.assign (.pointer (some ad)) rfl ?_)
 refine Wns ?_
 refine W1 (OpT.move (.func (.func 47) #[] #[(pt tb 0), (pt lb 0)]) rfl ?_)
 refine W1 (OpT.move (.pointer (some ad)) rfl ?_)
 refine W1 (OpT.nilc ad rfl ?_)
 refine W1 (OpT.field 1 ad (ad.add 1) tf59_1 rfl rfl ?_)
 refine W1 (OpT.callS cal47 [] [(pt tb 0), (pt lb 0)] [(.pointer (some (ad.add 1))), (pt tb 0), (pt lb 0)] rfl (ca1 rfl) (vars1_spec st (by (try simp only [List.length_cons, List.length_nil] at *); omega) e.term (ad.add 1) (hr.part 1 4)) ?_)
 rintro v2 w3 ⟨rfl, lv1, st4⟩
 replace st4 : St Z w0 w3 (VS lb tb mb lv1 (addVars l [e.term]) L) := st4
 refine Wns ?_
 refine W1 (OpT.move (.pointer (some ad)) rfl ?_)
 refine W1 (OpT.nilc ad rfl ?_)
 refine W1 (OpT.field 5 ad (ad.add 5) tf59_2 rfl rfl ?_)
 refine W1 (OpT.loadS (ad.add 5) kv ta57 rfl (hr.cell st4 (j := 5) rfl) ?_)
 refine W1 (OpT.lenR rfl tu57 hk rfl ?_)
 refine W1 (OpT.move (ii 0) rfl ?_)
 refine Wnt ?_
 refine WC.block ?_
 refine WC.loop (fun m ρ wz => ∃ (i : Nat), ∃ (lv2 : Value), m = e.kids.length - i ∧ i ≤ e.kids.length ∧ ρ 86 = (ni i) ∧ ρ 1 = (.func (.func 47) #[] #[(pt tb 0), (pt lb 0)]) ∧ ρ 8 = (.pointer (some ad)) ∧ ρ 85 = (ni (e.kids.length)) ∧ St Z w0 wz (Blk lb 68 [lv2] :: Blk tb 81 [(.map (some mb))] :: Row 9 1 lv2 (addVars (addVars l [e.term]) ((e.kids.take i).flatMap expT)).length ((addVars (addVars l [e.term]) ((e.kids.take i).flatMap expT)).map Value.string) :: Mp Value.string (Value.int .i64) mb (fm (addVars (addVars l [e.term]) ((e.kids.take i).flatMap expT))) :: L)) _ ⟨0, lv1, rfl, by omega, rfl, rfl, rfl, rfl, st4⟩ ?_
 rintro m5 ρ6 w7 ⟨i, lv2, hm14, hp9, hs10, hs11, hs12, hs13, st8⟩
 have hfl : ∀ x, e.kids[i]? = some x → ((e.kids.take i).flatMap expT).length + (expT x).length ≤ (e.kids.flatMap expT).length := fun x hx => fl_le _ hx
 refine Wsr ?_
 refine W1 (OpT.ilt .i64 (((i : Nat) : Int)) (((e.kids.length : Nat) : Int)) hs10 hs13 ?_)
 refine Wnt ?_
 refine WC.seq ?_
 refine WC.condP (((i : Nat) : Int) < ((e.kids.length : Nat) : Int)) rfl (fun h15 => ?_) (fun h15 => ?_)
 ·refine WC.skip ?_
  refine thenQ_n ?_
  refine WC.seq ?_
  refine WC.block ?_
  refine Wsr ?_
  refine W1 (OpT.move (ni i) hs10 ?_)
  refine W1 (OpT.assign (ni i) rfl ?_)
  refine Wnr ?_
  refine W1 (OpT.move (.pointer (some ad)) hs12 ?_)
  refine W1 (OpT.nilc ad rfl ?_)
  refine W1 (OpT.field 5 ad (ad.add 5) tf59_2 rfl rfl ?_)
  refine W1 (OpT.loadS (ad.add 5) kv ta57 rfl (hr.cell st8 (j := 5) rfl) ?_)
  refine W1 (OpT.move (ni i) rfl ?_)
  obtain ⟨x16, hx16⟩ : ∃ x, (e.kids)[i]? = some x := ⟨_, List.getElem?_eq_getElem (by omega)⟩
  refine W1 (OpT.idxX tu57 ts59 hk rfl .i64 (i) rfl hx16 (fun ad17 cs18 hr19 hR20 => ?_))
  have hR20c := hR20
  obtain ⟨kv21, rfl, hk22⟩ := rExp_kids hR20
  refine W1 (OpT.makeIface (.pointer (some ad17)) ti118 rfl ?_)
  refine W1 (OpT.move (.func (.func 47) #[] #[(pt tb 0), (pt lb 0)]) hs11 ?_)
  refine W1 (OpT.callS cal46 [] [] [(.iface 118 (.pointer (some ad17))), (.func (.func 47) #[] #[(pt tb 0), (pt lb 0)])] rfl (ca2 rfl rfl) (ih x16 (by have := kid_lt hx16; omega) st8 (by have := hfl _ hx16; have := addVars_len l [e.term]; have := addVars_len (addVars l [e.term]) ((e.kids.take i).flatMap expT); (try simp only [List.length_cons, List.length_nil] at *); omega) _ _ hr19 hk22) ?_)
  rintro v24 w25 ⟨rfl, lv23, st26⟩
  replace st26 : St Z w0 w25 (VS lb tb mb lv23 (addVars (addVars (addVars l [e.term]) ((e.kids.take i).flatMap expT)) (expT x16)) L) := st26
  refine WL.nil ?_
  refine blkQ_n ?_
  refine thenQ_n ?_
  refine WC.region ?_
  refine W1 (OpT.iadd .i64 (((i : Nat) : Int)) (1) (((i + 1 : Nat) : Int)) hs10 rfl (wadd (a := i) (b := 1) (by omega)) ?_)
  refine W1 (OpT.move (ni (i + 1)) rfl ?_)
  refine WL.nil ?_
  rw [show (addVars (addVars (addVars l [e.term]) ((e.kids.take i).flatMap expT)) (expT x16)) = addVars (addVars l [e.term]) ((e.kids.take (i + 1)).flatMap expT) from addVars_step expT hx16 (addVars l [e.term])] at st26
  exact loopQ_n _ (by omega) ⟨i + 1, lv23, rfl, by omega, rfl, hs11, hs12, hs13, st26⟩
 refine WC.exit ?_
 refine thenQ_x ?_
 refine loopQ_x ?_
 refine blkQ_hit ?_
 refine blkQ_n ?_
 refine retQ.none (.inl rfl) ?_
 rw [addVars_all expT ‹i ≤ e.kids.length› h15 (addVars l [e.term])] at st8
 rw [addVars_app] at st8
 exact ⟨_, rfl, rfl, lv2, by rw [expT_eq]; exact st8⟩

theorem walkEn : ∀ (n : Nat) (e : Exp), SizeOf.sizeOf e < n → ∀ {Z : Nat → Prop} {w0 w : World} {L : List Res} {lb tb mb : Nat} {lv : Value} {l : List ByteArray} (_ : St Z w0 w (VS lb tb mb lv l L)) (_ : l.length + (expT e).length < 1073741824) (ad : Addr) (kv : Value) (_ : RowZ Z w0 ad [(.int .i8 (e.op)), (.string e.term.var), (.int .i8 (e.term.val.kind)), (.int .i64 (e.term.val.num)), (.string e.term.val.text), kv]) (_ : rExp.sl Z w0 kv e.kids), Calls Try.prog 46 #[(.iface 118 (.pointer (some ad))), (.func (.func 47) #[] #[(.pointer (some ⟨tb, 0, none⟩)), (.pointer (some ⟨lb, 0, none⟩))])] w (Ret fun r w' => r = .tuple #[] ∧ ∃ lv', St Z w0 w' (VS lb tb mb lv' (addVars l (expT e)) L)) := by
  intro n
  induction n with
  | zero => intro e h; exact absurd h (Nat.not_lt_zero _)
  | succ n ih => intro e h Z w0 w L lb tb mb lv l st hl ad kv hr hk; exact walkE n e (by omega) ih st hl ad kv hr hk
theorem walk_Exp {Z : Nat → Prop} {w0 w : World} {L : List Res} {lb tb mb : Nat} {lv : Value} {l : List ByteArray} (st : St Z w0 w (VS lb tb mb lv l L)) (e : Exp) (hl : l.length + (expT e).length < 1073741824) (ad : Addr) (kv : Value) (hr : RowZ Z w0 ad [(.int .i8 (e.op)), (.string e.term.var), (.int .i8 (e.term.val.kind)), (.int .i64 (e.term.val.num)), (.string e.term.val.text), kv]) (hk : rExp.sl Z w0 kv e.kids) : Calls Try.prog 46 #[(.iface 118 (.pointer (some ad))), (.func (.func 47) #[] #[(.pointer (some ⟨tb, 0, none⟩)), (.pointer (some ⟨lb, 0, none⟩))])] w (Ret fun r w' => r = .tuple #[] ∧ ∃ lv', St Z w0 w' (VS lb tb mb lv' (addVars l (expT e)) L)) := walkEn _ e (Nat.lt_succ_self _) st hl ad kv hr hk
theorem walk_Ltr {Z : Nat → Prop} {w0 w : World} {L : List Res} {lb tb mb : Nat} {lv : Value} {l : List ByteArray} (st : St Z w0 w (VS lb tb mb lv l L)) (y : Ltr) (hl0 : l.length + (ltrT y).length < 1073741824) (ad : Addr) (av lk rk : Value) (hr : RowZ Z w0 ad [(.int .i8 (y.kind)), (.string y.atom.pred), av, (.int .i8 (y.rel)), (.int .i8 (y.left.op)), (.string y.left.term.var), (.int .i8 (y.left.term.val.kind)), (.int .i64 (y.left.term.val.num)), (.string y.left.term.val.text), lk, (.int .i8 (y.right.op)), (.string y.right.term.var), (.int .i8 (y.right.term.val.kind)), (.int .i64 (y.right.term.val.num)), (.string y.right.term.val.text), rk]) (ha : rTrm.sl Z w0 av y.atom.args) (hl : rExp.sl Z w0 lk y.left.kids) (hq : rExp.sl Z w0 rk y.right.kids) : Calls Try.prog 46 #[(.iface 138 (.pointer (some ad))), (.func (.func 47) #[] #[(pt tb 0), (pt lb 0)])] w (Ret fun r w' => r = .tuple #[] ∧ ∃ lv', St Z w0 w' (VS lb tb mb lv' (addVars l (ltrT y)) L)) := by
 have hl2 : l.length + (atmT y.atom).length + (expT y.left).length + (expT y.right).length < 1073741824 := by simp only [ltrT, List.length_append] at hl0; omega
 refine calls_of_WC (m := 119) (rs := []) Try.func46 rfl rfl rfl rfl ?_
 refine Wsr ?_
 refine W1 (OpT.move (.iface 138 (.pointer (some ad))) rfl ?_)
 refine Wnt ?_
 refine WC.block ?_
 refine Wsr ?_
 refine W1 (OpT.tassF 138 (.pointer (some ad)) ti97 tz97 rfl rfl ?_)
 refine W1 (OpT.extract [(.pointer none), (.bool false)] (.bool false) rfl rfl ?_)
 refine W1 (OpT.extract [(.pointer none), (.bool false)] (.pointer none) rfl rfl ?_)
 refine Wnt ?_
 refine WC.condF rfl ?_
 refine Wsr ?_
 refine W1 (OpT.tassT (.pointer (some ad)) ti138 rfl ?_)
 refine W1 (OpT.extract [(.pointer (some ad)), (.bool true)] (.bool true) rfl rfl ?_)
 refine W1 (OpT.extract [(.pointer (some ad)), (.bool true)] (.pointer (some ad)) rfl rfl ?_)
 refine Wnt ?_
 refine WC.condT rfl ?_
 refine Wsr ?_
 refine W1 (OpT.assign (.pointer (some ad)) rfl ?_)
 refine Wns ?_
 refine W1 (OpT.move (.pointer (some ad)) rfl ?_)
 refine W1 (OpT.nilc ad rfl ?_)
 refine W1 (OpT.field 1 ad (ad.add 1) tf61_1 rfl rfl ?_)
 refine W1 (OpT.makeIface (.pointer (some (ad.add 1))) ti117 rfl ?_)
 refine W1 (OpT.move (.func (.func 47) #[] #[(pt tb 0), (pt lb 0)]) rfl ?_)
 refine W1 (OpT.callS cal46 [] [] [(.iface 117 (.pointer (some (ad.add 1)))), (.func (.func 47) #[] #[(pt tb 0), (pt lb 0)])] rfl (ca2 rfl rfl) (walk_Atm st y.atom (by (try simp only [List.length_cons, List.length_nil] at *); omega) _ _ (hr.part 1 2) ha) ?_)
 rintro v2 w3 ⟨rfl, lv1, st4⟩
 replace st4 : St Z w0 w3 (VS lb tb mb lv1 (addVars l (atmT y.atom)) L) := st4
 refine Wns ?_
 refine W1 (OpT.move (.pointer (some ad)) rfl ?_)
 refine W1 (OpT.nilc ad rfl ?_)
 refine W1 (OpT.field 4 ad (ad.add 4) tf61_3 rfl rfl ?_)
 refine W1 (OpT.makeIface (.pointer (some (ad.add 4))) ti118 rfl ?_)
 refine W1 (OpT.move (.func (.func 47) #[] #[(pt tb 0), (pt lb 0)]) rfl ?_)
 refine W1 (OpT.callS cal46 [] [] [(.iface 118 (.pointer (some (ad.add 4)))), (.func (.func 47) #[] #[(pt tb 0), (pt lb 0)])] rfl (ca2 rfl rfl) (walk_Exp st4 y.left (by have := addVars_len l (atmT y.atom); (try simp only [List.length_cons, List.length_nil] at *); omega) _ _ (hr.part 4 6) hl) ?_)
 rintro v6 w7 ⟨rfl, lv5, st8⟩
 replace st8 : St Z w0 w7 (VS lb tb mb lv5 (addVars (addVars l (atmT y.atom)) (expT y.left)) L) := st8
 refine Wnr ?_
 refine W1 (OpT.move (.pointer (some ad)) rfl ?_)
 refine W1 (OpT.nilc ad rfl ?_)
 refine W1 (OpT.field 10 ad (ad.add 10) tf61_4 rfl rfl ?_)
 refine W1 (OpT.makeIface (.pointer (some (ad.add 10))) ti118 rfl ?_)
 refine W1 (OpT.move (.func (.func 47) #[] #[(pt tb 0), (pt lb 0)]) rfl ?_)
 refine W1 (OpT.callS cal46 [] [] [(.iface 118 (.pointer (some (ad.add 10)))), (.func (.func 47) #[] #[(pt tb 0), (pt lb 0)])] rfl (ca2 rfl rfl) (walk_Exp st8 y.right (by have := addVars_len l (atmT y.atom); have := addVars_len (addVars l (atmT y.atom)) (expT y.left); (try simp only [List.length_cons, List.length_nil] at *); omega) _ _ (hr.part 10 6) hq) ?_)
 rintro v10 w11 ⟨rfl, lv9, st12⟩
 replace st12 : St Z w0 w11 (VS lb tb mb lv9 (addVars (addVars (addVars l (atmT y.atom)) (expT y.left)) (expT y.right)) L) := st12
 refine WL.nil ?_
 refine blkQ_n ?_
 refine retQ.none (.inl rfl) ?_
 exact ⟨_, rfl, rfl, _, by rw [ltrT, ← addVars_app, ← addVars_app]; exact st12⟩

theorem walk_Rul {Z : Nat → Prop} {w0 w : World} {L : List Res} {lb tb mb : Nat} {lv : Value} {l : List ByteArray} (st : St Z w0 w (VS lb tb mb lv l L)) (y : Rul) (hl0 : l.length + (rulT y).length < 1073741824) (ad : Addr) (av bv : Value) (hr : RowZ Z w0 ad [(.string y.pred), av, bv]) (ha : rAgr.sl Z w0 av y.head) (hb : rLtr.sl Z w0 bv y.body) : Calls Try.prog 46 #[(.iface 97 (.pointer (some ad))), (.func (.func 47) #[] #[(pt tb 0), (pt lb 0)])] w (Ret fun r w' => r = .tuple #[] ∧ ∃ lv', St Z w0 w' (VS lb tb mb lv' (addVars l (rulT y)) L)) := by
 have hl2 : l.length + (y.head.flatMap (fun a : Agr => [a.term])).length + (y.body.flatMap ltrT).length < 1073741824 := by simp only [rulT, List.length_append] at hl0; omega
 have hal := Rl.sl_le ha
 have hbl := Rl.sl_le hb
 refine calls_of_WC (m := 119) (rs := []) Try.func46 rfl rfl rfl rfl ?_
 refine Wsr ?_
 refine W1 (OpT.move (.iface 97 (.pointer (some ad))) rfl ?_)
 refine Wnt ?_
 refine WC.block ?_
 refine Wsr ?_
 refine W1 (OpT.tassT (.pointer (some ad)) ti97 rfl ?_)
 refine W1 (OpT.extract [(.pointer (some ad)), (.bool true)] (.bool true) rfl rfl ?_)
 refine W1 (OpT.extract [(.pointer (some ad)), (.bool true)] (.pointer (some ad)) rfl rfl ?_)
 refine Wnt ?_
 refine WC.condT rfl ?_
 refine Wsr ?_
 refine W1 (OpT.assign (.pointer (some ad)) rfl ?_)
 refine Wnt ?_
 refine WC.seq ?_
 refine Wsr ?_
 refine W1 (OpT.move (.pointer (some ad)) rfl ?_)
 refine W1 (OpT.nilc ad rfl ?_)
 refine W1 (OpT.field 1 ad (ad.add 1) tf31_1 rfl rfl ?_)
 refine W1 (OpT.loadS (ad.add 1) av ta28 rfl (hr.cell st (j := 1) rfl) ?_)
 refine W1 (OpT.lenR rfl tu28 ha rfl ?_)
 refine W1 (OpT.move (ii 0) rfl ?_)
 refine Wnt ?_
 refine WC.block ?_
 refine WC.loop (fun m ρ wz => ∃ (i : Nat), ∃ (lv2 : Value), m = y.head.length - i ∧ i ≤ y.head.length ∧ ρ 21 = (ni i) ∧ ρ 1 = (.func (.func 47) #[] #[(pt tb 0), (pt lb 0)]) ∧ ρ 4 = (.pointer (some ad)) ∧ ρ 20 = (ni (y.head.length)) ∧ St Z w0 wz (Blk lb 68 [lv2] :: Blk tb 81 [(.map (some mb))] :: Row 9 1 lv2 (addVars l ((y.head.take i).flatMap (fun a : Agr => [a.term]))).length ((addVars l ((y.head.take i).flatMap (fun a : Agr => [a.term]))).map Value.string) :: Mp Value.string (Value.int .i64) mb (fm (addVars l ((y.head.take i).flatMap (fun a : Agr => [a.term])))) :: L)) _ ⟨0, lv, rfl, by omega, rfl, rfl, rfl, rfl, st⟩ ?_
 rintro m1 ρ2 w3 ⟨i, lv2, hm10, hp5, hs6, hs7, hs8, hs9, st4⟩
 have hfl : ∀ x, y.head[i]? = some x → ((y.head.take i).flatMap (fun a : Agr => [a.term])).length + ((fun a : Agr => [a.term]) x).length ≤ (y.head.flatMap (fun a : Agr => [a.term])).length := fun x hx => fl_le _ hx
 refine Wsr ?_
 refine W1 (OpT.ilt .i64 (((i : Nat) : Int)) (((y.head.length : Nat) : Int)) hs6 hs9 ?_)
 refine Wnt ?_
 refine WC.seq ?_
 refine WC.condP (((i : Nat) : Int) < ((y.head.length : Nat) : Int)) rfl (fun h11 => ?_) (fun h11 => ?_)
 ·refine WC.skip ?_
  refine thenQ_n ?_
  refine WC.seq ?_
  refine WC.block ?_
  refine Wsr ?_
  refine W1 (OpT.move (ni i) hs6 ?_)
  refine W1 (OpT.assign (ni i) rfl ?_)
  refine Wnr ?_
  refine W1 (OpT.move (.func (.func 47) #[] #[(pt tb 0), (pt lb 0)]) hs7 ?_)
  refine W1 (OpT.move (.pointer (some ad)) hs8 ?_)
  refine W1 (OpT.nilc ad rfl ?_)
  refine W1 (OpT.field 1 ad (ad.add 1) tf31_1 rfl rfl ?_)
  refine W1 (OpT.loadS (ad.add 1) av ta28 rfl (hr.cell st4 (j := 1) rfl) ?_)
  refine W1 (OpT.move (ni i) rfl ?_)
  obtain ⟨x12, hx12⟩ : ∃ x, (y.head)[i]? = some x := ⟨_, List.getElem?_eq_getElem (by omega)⟩
  refine W1 (OpT.idxX tu28 ts40 ha rfl .i64 (i) rfl hx12 (fun ad13 cs14 hr15 hR16 => ?_))
  have hR16c := hR16
  obtain rfl := hR16
  refine W1 (OpT.field 1 ad13 (ad13.add 1) tf40_1 rfl rfl ?_)
  refine W1 (OpT.callS cal47 [] [(pt tb 0), (pt lb 0)] [(.pointer (some (ad13.add 1))), (pt tb 0), (pt lb 0)] rfl (ca1 rfl) (vars1_spec st4 (by have := hfl _ hx12; have := addVars_len l ((y.head.take i).flatMap (fun a : Agr => [a.term])); (try simp only [List.length_cons, List.length_nil] at *); omega) x12.term (ad13.add 1) (hr15.part 1 4)) ?_)
  rintro v18 w19 ⟨rfl, lv17, st20⟩
  replace st20 : St Z w0 w19 (VS lb tb mb lv17 (addVars (addVars l ((y.head.take i).flatMap (fun a : Agr => [a.term]))) [x12.term]) L) := st20
  refine WL.nil ?_
  refine blkQ_n ?_
  refine thenQ_n ?_
  refine WC.region ?_
  refine W1 (OpT.iadd .i64 (((i : Nat) : Int)) (1) (((i + 1 : Nat) : Int)) hs6 rfl (wadd (a := i) (b := 1) (by omega)) ?_)
  refine W1 (OpT.move (ni (i + 1)) rfl ?_)
  refine WL.nil ?_
  rw [show (addVars (addVars l ((y.head.take i).flatMap (fun a : Agr => [a.term]))) [x12.term]) = addVars l ((y.head.take (i + 1)).flatMap (fun a : Agr => [a.term])) from addVars_step (fun a : Agr => [a.term]) hx12 l] at st20
  exact loopQ_n _ (by omega) ⟨i + 1, lv17, rfl, by omega, rfl, hs7, hs8, hs9, st20⟩
 refine WC.exit ?_
 refine thenQ_x ?_
 refine loopQ_x ?_
 refine blkQ_hit ?_
 refine thenQ_n ?_
 refine Wsr ?_
 refine W1 (OpT.move (.pointer (some ad)) hs8 ?_)
 refine W1 (OpT.nilc ad rfl ?_)
 refine W1 (OpT.field 2 ad (ad.add 2) tf31_2 rfl rfl ?_)
 refine W1 (OpT.loadS (ad.add 2) bv ta29 rfl (hr.cell st4 (j := 2) rfl) ?_)
 refine W1 (OpT.lenR rfl tu29 hb rfl ?_)
 refine W1 (OpT.move (ii 0) rfl ?_)
 refine Wnt ?_
 refine WC.block ?_
 rw [addVars_all (fun a : Agr => [a.term]) ‹i ≤ y.head.length› h11 l] at st4
 refine WC.loop (fun m ρ wz => ∃ (j : Nat), ∃ (lv2 : Value), m = y.body.length - j ∧ j ≤ y.body.length ∧ ρ 39 = (ni j) ∧ ρ 1 = (.func (.func 47) #[] #[(pt tb 0), (pt lb 0)]) ∧ ρ 4 = (.pointer (some ad)) ∧ ρ 38 = (ni (y.body.length)) ∧ St Z w0 wz (Blk lb 68 [lv2] :: Blk tb 81 [(.map (some mb))] :: Row 9 1 lv2 (addVars (addVars l (y.head.flatMap (fun a : Agr => [a.term]))) ((y.body.take j).flatMap ltrT)).length ((addVars (addVars l (y.head.flatMap (fun a : Agr => [a.term]))) ((y.body.take j).flatMap ltrT)).map Value.string) :: Mp Value.string (Value.int .i64) mb (fm (addVars (addVars l (y.head.flatMap (fun a : Agr => [a.term]))) ((y.body.take j).flatMap ltrT))) :: L)) _ ⟨0, lv2, rfl, by omega, rfl, hs7, hs8, rfl, st4⟩ ?_
 rintro m21 ρ22 w23 ⟨j, lv2, hm30, hp25, hs26, hs27, hs28, hs29, st24⟩
 have hfl : ∀ x, y.body[j]? = some x → ((y.body.take j).flatMap ltrT).length + (ltrT x).length ≤ (y.body.flatMap ltrT).length := fun x hx => fl_le _ hx
 refine Wsr ?_
 refine W1 (OpT.ilt .i64 (((j : Nat) : Int)) (((y.body.length : Nat) : Int)) hs26 hs29 ?_)
 refine Wnt ?_
 refine WC.seq ?_
 refine WC.condP (((j : Nat) : Int) < ((y.body.length : Nat) : Int)) rfl (fun h31 => ?_) (fun h31 => ?_)
 ·refine WC.skip ?_
  refine thenQ_n ?_
  refine WC.seq ?_
  refine WC.block ?_
  refine Wsr ?_
  refine W1 (OpT.move (ni j) hs26 ?_)
  refine W1 (OpT.assign (ni j) rfl ?_)
  refine Wnr ?_
  refine W1 (OpT.move (.pointer (some ad)) hs28 ?_)
  refine W1 (OpT.nilc ad rfl ?_)
  refine W1 (OpT.field 2 ad (ad.add 2) tf31_2 rfl rfl ?_)
  refine W1 (OpT.loadS (ad.add 2) bv ta29 rfl (hr.cell st24 (j := 2) rfl) ?_)
  refine W1 (OpT.move (ni j) rfl ?_)
  obtain ⟨x32, hx32⟩ : ∃ x, (y.body)[j]? = some x := ⟨_, List.getElem?_eq_getElem (by omega)⟩
  refine W1 (OpT.idxX tu29 ts61 hb rfl .i64 (j) rfl hx32 (fun ad33 cs34 hr35 hR36 => ?_))
  have hR36c := hR36
  obtain ⟨av37, lk38, rk39, rfl, ha40, hl41, hr42⟩ := hR36
  refine W1 (OpT.makeIface (.pointer (some ad33)) ti138 rfl ?_)
  refine W1 (OpT.move (.func (.func 47) #[] #[(pt tb 0), (pt lb 0)]) hs27 ?_)
  refine W1 (OpT.callS cal46 [] [] [(.iface 138 (.pointer (some ad33))), (.func (.func 47) #[] #[(pt tb 0), (pt lb 0)])] rfl (ca2 rfl rfl) (walk_Ltr st24 x32 (by have := hfl _ hx32; have := addVars_len l (y.head.flatMap (fun a : Agr => [a.term])); have := addVars_len (addVars l (y.head.flatMap (fun a : Agr => [a.term]))) ((y.body.take j).flatMap ltrT); (try simp only [List.length_cons, List.length_nil] at *); omega) _ _ _ _ hr35 ha40 hl41 hr42) ?_)
  rintro v44 w45 ⟨rfl, lv43, st46⟩
  replace st46 : St Z w0 w45 (VS lb tb mb lv43 (addVars (addVars (addVars l (y.head.flatMap (fun a : Agr => [a.term]))) ((y.body.take j).flatMap ltrT)) (ltrT x32)) L) := st46
  refine WL.nil ?_
  refine blkQ_n ?_
  refine thenQ_n ?_
  refine WC.region ?_
  refine W1 (OpT.iadd .i64 (((j : Nat) : Int)) (1) (((j + 1 : Nat) : Int)) hs26 rfl (wadd (a := j) (b := 1) (by omega)) ?_)
  refine W1 (OpT.move (ni (j + 1)) rfl ?_)
  refine WL.nil ?_
  rw [show (addVars (addVars (addVars l (y.head.flatMap (fun a : Agr => [a.term]))) ((y.body.take j).flatMap ltrT)) (ltrT x32)) = addVars (addVars l (y.head.flatMap (fun a : Agr => [a.term]))) ((y.body.take (j + 1)).flatMap ltrT) from addVars_step ltrT hx32 (addVars l (y.head.flatMap (fun a : Agr => [a.term])))] at st46
  exact loopQ_n _ (by omega) ⟨j + 1, lv43, rfl, by omega, rfl, hs27, hs28, hs29, st46⟩
 refine WC.exit ?_
 refine thenQ_x ?_
 refine loopQ_x ?_
 refine blkQ_hit ?_
 refine blkQ_n ?_
 refine retQ.none (.inl rfl) ?_
 rw [addVars_all ltrT ‹j ≤ y.body.length› h31 (addVars l (y.head.flatMap (fun a : Agr => [a.term])))] at st24
 exact ⟨_, rfl, rfl, lv2, by rw [rulT, ← addVars_app]; exact st24⟩

end Go.Ped
