/- Parts F4, F5, F6, F7, F8, F9, F10, F11, F12 of the proof. -/
import Derived.Test.YtojkakpkmfopbaaGreatWa1
set_option linter.unusedVariables false
set_option maxRecDepth 20000
namespace Go.Ped
open Go Go.Eng Go.RowKit Go.Proofs

theorem tu51 : Tryz.prog.underlying 51 = some (.slice 102) := by kernel_rfl
theorem ts102 : sizeB Tryz.prog 102 = some 5 := by kernel_rfl
theorem ta102 : aggB Tryz.prog 102 = some true := by kernel_rfl
theorem cal66 : CallOk Tryz.prog 66 := ⟨⟨Tryz.f66, Tryz.func66, rfl, by decide⟩⟩
theorem tu60 : Tryz.prog.underlying 60 = some (.slice 69) := by kernel_rfl
theorem cal135 : CallOk Tryz.prog 135 := ⟨⟨Tryz.f135, Tryz.func135, rfl, by decide⟩⟩
theorem tu70 : Tryz.prog.underlying 70 = some (.slice 72) := by kernel_rfl
theorem ts72 : sizeB Tryz.prog 72 = some 6 := by kernel_rfl
theorem ta72 : aggB Tryz.prog 72 = some true := by kernel_rfl
theorem cal140 : CallOk Tryz.prog 140 := ⟨⟨Tryz.f140, Tryz.func140, rfl, by decide⟩⟩
theorem tu22 : Tryz.prog.underlying 22 = some (.slice 54) := by kernel_rfl
theorem ts54 : sizeB Tryz.prog 54 = some 3 := by kernel_rfl
theorem ta54 : aggB Tryz.prog 54 = some true := by kernel_rfl
theorem cal64 : CallOk Tryz.prog 64 := ⟨⟨Tryz.f64, Tryz.func64, rfl, by decide⟩⟩
def idxOf {α : Type} (p : α → Bool) (xs : List α) : Int := match xs.findIdx? p with | some i => (i : Int) | none => -1
theorem idxOf_any {α : Type} (p : α → Bool) (xs : List α) : decide (0 ≤ idxOf p xs) = xs.any p := by
  unfold idxOf
  rw [Bool.eq_iff_iff]
  simp only [decide_eq_true_eq]
  cases h : xs.findIdx? p with
  | none =>
    have := List.findIdx?_eq_none_iff.1 h
    simp only [List.any_eq_true]
    constructor
    · intro h; omega
    · rintro ⟨x, hx, hp⟩; rw [this x hx] at hp; cases hp
  | some i =>
    simp only [List.any_eq_true]
    obtain ⟨hi, hp, _⟩ := List.findIdx?_eq_some_iff_getElem.1 h
    constructor
    · intro _; exact ⟨xs[i], List.getElem_mem hi, hp⟩
    · intro _; omega
theorem idxOf_none {α : Type} (p : α → Bool) (xs : List α) (h : ∀ j x, j < xs.length → xs[j]? = some x → p x = false) : idxOf p xs = -1 := by
  unfold idxOf
  rw [List.findIdx?_eq_none_iff.2]
  intro x hx
  obtain ⟨j, hj, rfl⟩ := List.getElem_of_mem hx
  exact h j _ hj (List.getElem?_eq_getElem hj)
theorem idxOf_some {α : Type} (p : α → Bool) (xs : List α) (k : Nat) (x : α) (hx : xs[k]? = some x) (h : ∀ j x, j < k → xs[j]? = some x → p x = false) (hp : p x = true) : idxOf p xs = k := by
  unfold idxOf
  obtain ⟨hk, rfl⟩ := List.getElem?_eq_some_iff.1 hx
  rw [List.findIdx?_eq_some_iff_getElem.2 ⟨hk, hp, fun j hj => by
    have := h j (xs[j]'(by omega)) hj (List.getElem?_eq_getElem (by omega))
    simp [this]⟩]
theorem IndexFunc_Agr {Z : Nat → Prop} {w0 w : World} {L : List Res} (st : St Z w0 w L) {v : Value} {xs : List Agr} (h : rAgr.sl Z w0 v xs) (k : Nat) (ok : CallOk Tryz.prog k) (cap : List Value) (p : Agr → Bool) (hp : ∀ (w' : World) (cs : List Value) (x : Agr), x ∈ xs → St Z w0 w' L → rAgr.R Z w0 cs x → Calls Tryz.prog k (.agg cs.toArray :: cap).toArray w' (Ret fun r w'' => r = .bool (p x) ∧ St Z w0 w'' L)) : Calls Tryz.prog 66 #[v, (.func (.func k) #[] (cap).toArray)] w (Ret fun r w' => r = .int .i64 (idxOf p xs) ∧ St Z w0 w' L) := by
 refine calls_of_WC (m := 19) (rs := [.tmp 4]) Tryz.func66 rfl rfl rfl rfl ?_
 refine Wsr ?_
 refine W1 (OpT.assign (ii 0) rfl ?_)
 refine Wnt ?_
 refine WC.seq ?_
 refine Wsr ?_
 refine W1 (OpT.move v rfl ?_)
 refine W1 (OpT.lenR rfl tu51 h rfl ?_)
 refine W1 (OpT.move (ii 0) rfl ?_)
 refine Wnt ?_
 refine WC.block ?_
 refine WC.loop (fun m ρ wz => ∃ (i : Nat), m = xs.length - i ∧ i ≤ xs.length ∧ Hid (∀ (j : Nat) x, j < i → xs[j]? = some x → p x = false) ∧ ρ 8 = (ni i) ∧ ρ 0 = v ∧ ρ 1 = (.func (.func k) #[] (cap).toArray) ∧ ρ 7 = (ni (xs.length)) ∧ St Z w0 wz (L)) _ ⟨0, rfl, by omega, fun j x hj => absurd hj (Nat.not_lt_zero _), rfl, rfl, rfl, rfl, st⟩ ?_
 rintro m1 ρ2 w3 ⟨i, hm10, hp5, HP, hs6, hs7, hs8, hs9, st4⟩
 have hxl := Rl.sl_le h
 refine Wsr ?_
 refine W1 (OpT.ilt .i64 (((i : Nat) : Int)) (((xs.length : Nat) : Int)) hs6 hs9 ?_)
 refine Wnt ?_
 refine WC.seq ?_
 refine WC.condP (((i : Nat) : Int) < ((xs.length : Nat) : Int)) rfl (fun h11 => ?_) (fun h11 => ?_)
 ·refine WC.skip ?_
  refine thenQ_n ?_
  refine WC.seq ?_
  refine WC.block ?_
  refine Wsr ?_
  refine W1 (OpT.move (ni i) hs6 ?_)
  refine W1 (OpT.assign (ni i) rfl ?_)
  refine Wns ?_
  refine W1 (OpT.move (.func (.func k) #[] (cap).toArray) hs8 ?_)
  refine W1 (OpT.move v hs7 ?_)
  refine W1 (OpT.move (ni i) rfl ?_)
  obtain ⟨x12, hx12⟩ : ∃ x, (xs)[i]? = some x := ⟨_, List.getElem?_eq_getElem (by omega)⟩
  refine W1 (OpT.idxX tu51 ts102 h rfl .i64 (i) rfl hx12 (fun ad13 cs14 hr15 hR16 => ?_))
  have hR16c := hR16
  obtain rfl := hR16
  refine W1 (OpT.loadA ad13 5 [(.int .i8 (x12.agg)), (.string x12.term.var), (.int .i8 (x12.term.val.kind)), (.int .i64 (x12.term.val.num)), (.string x12.term.val.text)] ta102 ts102 rfl ((hr15.at st4).part 0 5) rfl ?_)
  refine W1 (OpT.callS ok [] cap ((.agg #[(.int .i8 (x12.agg)), (.string x12.term.var), (.int .i8 (x12.term.val.kind)), (.int .i64 (x12.term.val.num)), (.string x12.term.val.text)]) :: cap) rfl (ca1 rfl) (hp _ _ _ (List.mem_of_getElem? hx12) st4 hR16c) ?_)
  rintro v17 w18 ⟨rfl, st19⟩
  refine Wnt ?_
  refine WC.cond ((p x12)) rfl (fun h20 => ?_) (fun h20 => ?_)
  ·refine WC.seq ?_
   refine WC.region ?_
   refine W1 (OpT.move (ni i) rfl ?_)
   refine W1 (OpT.assign (ni i) rfl ?_)
   refine Wnt ?_
   refine WC.ret <| blkQ_r <| thenQ_r <| loopQ_r <| blkQ_r <| thenQ_r <| retQ.one (ni i) rfl ?_
   exact ⟨_, rfl, by rw [idxOf_some p xs i _ hx12 HP.out ‹_›], st19⟩
  refine WC.skip ?_
  refine blkQ_n ?_
  refine thenQ_n ?_
  refine WC.region ?_
  refine W1 (OpT.iadd .i64 (((i : Nat) : Int)) (1) (((i + 1 : Nat) : Int)) hs6 rfl (wadd (a := i) (b := 1) (by omega)) ?_)
  refine W1 (OpT.move (ni (i + 1)) rfl ?_)
  refine WL.nil ?_
  exact loopQ_n _ (by omega) ⟨i + 1, rfl, by omega, fun j x hj hx => by
        rcases Nat.lt_succ_iff_lt_or_eq.1 hj with hj | rfl
        · exact HP.out j x hj hx
        · rw [hx12] at hx; cases hx; assumption, rfl, hs7, hs8, hs9, st19⟩
 refine WC.exit ?_
 refine thenQ_x ?_
 refine loopQ_x ?_
 refine blkQ_hit ?_
 refine thenQ_n ?_
 refine Wsr ?_
 refine W1 (OpT.assign (ii (-1)) rfl ?_)
 refine Wnt ?_
 refine WC.ret <| retQ.one (ii (-1)) rfl ?_
 exact ⟨_, rfl, by rw [idxOf_none p xs (fun j x hj hx => HP.out j x (by omega) hx)], st4⟩

theorem ContainsFunc_Agr {Z : Nat → Prop} {w0 w : World} {L : List Res} (st : St Z w0 w L) {v : Value} {xs : List Agr} (h : rAgr.sl Z w0 v xs) (k : Nat) (ok : CallOk Tryz.prog k) (cap : List Value) (p : Agr → Bool) (hp : ∀ (w' : World) (cs : List Value) (x : Agr), x ∈ xs → St Z w0 w' L → rAgr.R Z w0 cs x → Calls Tryz.prog k (.agg cs.toArray :: cap).toArray w' (Ret fun r w'' => r = .bool (p x) ∧ St Z w0 w'' L)) : Calls Tryz.prog 42 #[v, (.func (.func k) #[] (cap).toArray)] w (Ret fun r w' => r = .bool (xs.any p) ∧ St Z w0 w' L) := by
 refine calls_of_WC (m := 9) (rs := [.tmp 4]) Tryz.func42 rfl rfl rfl rfl ?_
 refine Wsr ?_
 refine W1 (OpT.assign (.bool false) rfl ?_)
 refine Wns ?_
 refine W1 (OpT.move v rfl ?_)
 refine W1 (OpT.move (.func (.func k) #[] (cap).toArray) rfl ?_)
 refine W1 (OpT.callS cal66 [] [] [v, (.func (.func k) #[] (cap).toArray)] rfl (ca2 rfl rfl) (IndexFunc_Agr st h k ok cap p hp) ?_)
 rintro v1 w2 ⟨rfl, st3⟩
 refine W1 (OpT.ige .i64 (idxOf p xs) (0) rfl rfl ?_)
 refine W1 (OpT.assign (.bool (decide (0 ≤ (idxOf p xs)))) rfl ?_)
 refine Wnt ?_
 refine WC.ret <| retQ.one (.bool (decide (0 ≤ (idxOf p xs)))) rfl ?_
 exact ⟨_, rfl, by rw [idxOf_any], st3⟩

theorem IndexFunc_Trm {Z : Nat → Prop} {w0 w : World} {L : List Res} (st : St Z w0 w L) {v : Value} {xs : List Trm} (h : rTrm.sl Z w0 v xs) (k : Nat) (ok : CallOk Tryz.prog k) (cap : List Value) (p : Trm → Bool) (hp : ∀ (w' : World) (cs : List Value) (x : Trm), x ∈ xs → St Z w0 w' L → rTrm.R Z w0 cs x → Calls Tryz.prog k (.agg cs.toArray :: cap).toArray w' (Ret fun r w'' => r = .bool (p x) ∧ St Z w0 w'' L)) : Calls Tryz.prog 135 #[v, (.func (.func k) #[] (cap).toArray)] w (Ret fun r w' => r = .int .i64 (idxOf p xs) ∧ St Z w0 w' L) := by
 refine calls_of_WC (m := 19) (rs := [.tmp 4]) Tryz.func135 rfl rfl rfl rfl ?_
 refine Wsr ?_
 refine W1 (OpT.assign (ii 0) rfl ?_)
 refine Wnt ?_
 refine WC.seq ?_
 refine Wsr ?_
 refine W1 (OpT.move v rfl ?_)
 refine W1 (OpT.lenR rfl tu60 h rfl ?_)
 refine W1 (OpT.move (ii 0) rfl ?_)
 refine Wnt ?_
 refine WC.block ?_
 refine WC.loop (fun m ρ wz => ∃ (i : Nat), m = xs.length - i ∧ i ≤ xs.length ∧ Hid (∀ (j : Nat) x, j < i → xs[j]? = some x → p x = false) ∧ ρ 8 = (ni i) ∧ ρ 0 = v ∧ ρ 1 = (.func (.func k) #[] (cap).toArray) ∧ ρ 7 = (ni (xs.length)) ∧ St Z w0 wz (L)) _ ⟨0, rfl, by omega, fun j x hj => absurd hj (Nat.not_lt_zero _), rfl, rfl, rfl, rfl, st⟩ ?_
 rintro m1 ρ2 w3 ⟨i, hm10, hp5, HP, hs6, hs7, hs8, hs9, st4⟩
 have hxl := Rl.sl_le h
 refine Wsr ?_
 refine W1 (OpT.ilt .i64 (((i : Nat) : Int)) (((xs.length : Nat) : Int)) hs6 hs9 ?_)
 refine Wnt ?_
 refine WC.seq ?_
 refine WC.condP (((i : Nat) : Int) < ((xs.length : Nat) : Int)) rfl (fun h11 => ?_) (fun h11 => ?_)
 ·refine WC.skip ?_
  refine thenQ_n ?_
  refine WC.seq ?_
  refine WC.block ?_
  refine Wsr ?_
  refine W1 (OpT.move (ni i) hs6 ?_)
  refine W1 (OpT.assign (ni i) rfl ?_)
  refine Wns ?_
  refine W1 (OpT.move (.func (.func k) #[] (cap).toArray) hs8 ?_)
  refine W1 (OpT.move v hs7 ?_)
  refine W1 (OpT.move (ni i) rfl ?_)
  obtain ⟨x12, hx12⟩ : ∃ x, (xs)[i]? = some x := ⟨_, List.getElem?_eq_getElem (by omega)⟩
  refine W1 (OpT.idxX tu60 ts69 h rfl .i64 (i) rfl hx12 (fun ad13 cs14 hr15 hR16 => ?_))
  have hR16c := hR16
  obtain rfl := hR16
  refine W1 (OpT.loadA ad13 4 [(.string x12.var), (.int .i8 (x12.val.kind)), (.int .i64 (x12.val.num)), (.string x12.val.text)] ta69 ts69 rfl ((hr15.at st4).part 0 4) rfl ?_)
  refine W1 (OpT.callS ok [] cap ((.agg #[(.string x12.var), (.int .i8 (x12.val.kind)), (.int .i64 (x12.val.num)), (.string x12.val.text)]) :: cap) rfl (ca1 rfl) (hp _ _ _ (List.mem_of_getElem? hx12) st4 hR16c) ?_)
  rintro v17 w18 ⟨rfl, st19⟩
  refine Wnt ?_
  refine WC.cond ((p x12)) rfl (fun h20 => ?_) (fun h20 => ?_)
  ·refine WC.seq ?_
   refine WC.region ?_
   refine W1 (OpT.move (ni i) rfl ?_)
   refine W1 (OpT.assign (ni i) rfl ?_)
   refine Wnt ?_
   refine WC.ret <| blkQ_r <| thenQ_r <| loopQ_r <| blkQ_r <| thenQ_r <| retQ.one (ni i) rfl ?_
   exact ⟨_, rfl, by rw [idxOf_some p xs i _ hx12 HP.out ‹_›], st19⟩
  refine WC.skip ?_
  refine blkQ_n ?_
  refine thenQ_n ?_
  refine WC.region ?_
  refine W1 (OpT.iadd .i64 (((i : Nat) : Int)) (1) (((i + 1 : Nat) : Int)) hs6 rfl (wadd (a := i) (b := 1) (by omega)) ?_)
  refine W1 (OpT.move (ni (i + 1)) rfl ?_)
  refine WL.nil ?_
  exact loopQ_n _ (by omega) ⟨i + 1, rfl, by omega, fun j x hj hx => by
        rcases Nat.lt_succ_iff_lt_or_eq.1 hj with hj | rfl
        · exact HP.out j x hj hx
        · rw [hx12] at hx; cases hx; assumption, rfl, hs7, hs8, hs9, st19⟩
 refine WC.exit ?_
 refine thenQ_x ?_
 refine loopQ_x ?_
 refine blkQ_hit ?_
 refine thenQ_n ?_
 refine Wsr ?_
 refine W1 (OpT.assign (ii (-1)) rfl ?_)
 refine Wnt ?_
 refine WC.ret <| retQ.one (ii (-1)) rfl ?_
 exact ⟨_, rfl, by rw [idxOf_none p xs (fun j x hj hx => HP.out j x (by omega) hx)], st4⟩

theorem ContainsFunc_Trm {Z : Nat → Prop} {w0 w : World} {L : List Res} (st : St Z w0 w L) {v : Value} {xs : List Trm} (h : rTrm.sl Z w0 v xs) (k : Nat) (ok : CallOk Tryz.prog k) (cap : List Value) (p : Trm → Bool) (hp : ∀ (w' : World) (cs : List Value) (x : Trm), x ∈ xs → St Z w0 w' L → rTrm.R Z w0 cs x → Calls Tryz.prog k (.agg cs.toArray :: cap).toArray w' (Ret fun r w'' => r = .bool (p x) ∧ St Z w0 w'' L)) : Calls Tryz.prog 126 #[v, (.func (.func k) #[] (cap).toArray)] w (Ret fun r w' => r = .bool (xs.any p) ∧ St Z w0 w' L) := by
 refine calls_of_WC (m := 9) (rs := [.tmp 4]) Tryz.func126 rfl rfl rfl rfl ?_
 refine Wsr ?_
 refine W1 (OpT.assign (.bool false) rfl ?_)
 refine Wns ?_
 refine W1 (OpT.move v rfl ?_)
 refine W1 (OpT.move (.func (.func k) #[] (cap).toArray) rfl ?_)
 refine W1 (OpT.callS cal135 [] [] [v, (.func (.func k) #[] (cap).toArray)] rfl (ca2 rfl rfl) (IndexFunc_Trm st h k ok cap p hp) ?_)
 rintro v1 w2 ⟨rfl, st3⟩
 refine W1 (OpT.ige .i64 (idxOf p xs) (0) rfl rfl ?_)
 refine W1 (OpT.assign (.bool (decide (0 ≤ (idxOf p xs)))) rfl ?_)
 refine Wnt ?_
 refine WC.ret <| retQ.one (.bool (decide (0 ≤ (idxOf p xs)))) rfl ?_
 exact ⟨_, rfl, by rw [idxOf_any], st3⟩

theorem IndexFunc_Exp {Z : Nat → Prop} {w0 w : World} {L : List Res} (st : St Z w0 w L) {v : Value} {xs : List Exp} (h : rExp.sl Z w0 v xs) (k : Nat) (ok : CallOk Tryz.prog k) (cap : List Value) (p : Exp → Bool) (hp : ∀ (w' : World) (cs : List Value) (x : Exp), x ∈ xs → St Z w0 w' L → rExp.R Z w0 cs x → Calls Tryz.prog k (.agg cs.toArray :: cap).toArray w' (Ret fun r w'' => r = .bool (p x) ∧ St Z w0 w'' L)) : Calls Tryz.prog 140 #[v, (.func (.func k) #[] (cap).toArray)] w (Ret fun r w' => r = .int .i64 (idxOf p xs) ∧ St Z w0 w' L) := by
 refine calls_of_WC (m := 19) (rs := [.tmp 4]) Tryz.func140 rfl rfl rfl rfl ?_
 refine Wsr ?_
 refine W1 (OpT.assign (ii 0) rfl ?_)
 refine Wnt ?_
 refine WC.seq ?_
 refine Wsr ?_
 refine W1 (OpT.move v rfl ?_)
 refine W1 (OpT.lenR rfl tu70 h rfl ?_)
 refine W1 (OpT.move (ii 0) rfl ?_)
 refine Wnt ?_
 refine WC.block ?_
 refine WC.loop (fun m ρ wz => ∃ (i : Nat), m = xs.length - i ∧ i ≤ xs.length ∧ Hid (∀ (j : Nat) x, j < i → xs[j]? = some x → p x = false) ∧ ρ 8 = (ni i) ∧ ρ 0 = v ∧ ρ 1 = (.func (.func k) #[] (cap).toArray) ∧ ρ 7 = (ni (xs.length)) ∧ St Z w0 wz (L)) _ ⟨0, rfl, by omega, fun j x hj => absurd hj (Nat.not_lt_zero _), rfl, rfl, rfl, rfl, st⟩ ?_
 rintro m1 ρ2 w3 ⟨i, hm10, hp5, HP, hs6, hs7, hs8, hs9, st4⟩
 have hxl := Rl.sl_le h
 refine Wsr ?_
 refine W1 (OpT.ilt .i64 (((i : Nat) : Int)) (((xs.length : Nat) : Int)) hs6 hs9 ?_)
 refine Wnt ?_
 refine WC.seq ?_
 refine WC.condP (((i : Nat) : Int) < ((xs.length : Nat) : Int)) rfl (fun h11 => ?_) (fun h11 => ?_)
 ·refine WC.skip ?_
  refine thenQ_n ?_
  refine WC.seq ?_
  refine WC.block ?_
  refine Wsr ?_
  refine W1 (OpT.move (ni i) hs6 ?_)
  refine W1 (OpT.assign (ni i) rfl ?_)
  refine Wns ?_
  refine W1 (OpT.move (.func (.func k) #[] (cap).toArray) hs8 ?_)
  refine W1 (OpT.move v hs7 ?_)
  refine W1 (OpT.move (ni i) rfl ?_)
  obtain ⟨x12, hx12⟩ : ∃ x, (xs)[i]? = some x := ⟨_, List.getElem?_eq_getElem (by omega)⟩
  refine W1 (OpT.idxX tu70 ts72 h rfl .i64 (i) rfl hx12 (fun ad13 cs14 hr15 hR16 => ?_))
  have hR16c := hR16
  obtain ⟨kv17, rfl, hk18⟩ := rExp_kids hR16
  refine W1 (OpT.loadA ad13 6 [(.int .i8 (x12.op)), (.string x12.term.var), (.int .i8 (x12.term.val.kind)), (.int .i64 (x12.term.val.num)), (.string x12.term.val.text), kv17] ta72 ts72 rfl ((hr15.at st4).part 0 6) rfl ?_)
  refine W1 (OpT.callS ok [] cap ((.agg #[(.int .i8 (x12.op)), (.string x12.term.var), (.int .i8 (x12.term.val.kind)), (.int .i64 (x12.term.val.num)), (.string x12.term.val.text), kv17]) :: cap) rfl (ca1 rfl) (hp _ _ _ (List.mem_of_getElem? hx12) st4 hR16c) ?_)
  rintro v19 w20 ⟨rfl, st21⟩
  refine Wnt ?_
  refine WC.cond ((p x12)) rfl (fun h22 => ?_) (fun h22 => ?_)
  ·refine WC.seq ?_
   refine WC.region ?_
   refine W1 (OpT.move (ni i) rfl ?_)
   refine W1 (OpT.assign (ni i) rfl ?_)
   refine Wnt ?_
   refine WC.ret <| blkQ_r <| thenQ_r <| loopQ_r <| blkQ_r <| thenQ_r <| retQ.one (ni i) rfl ?_
   exact ⟨_, rfl, by rw [idxOf_some p xs i _ hx12 HP.out ‹_›], st21⟩
  refine WC.skip ?_
  refine blkQ_n ?_
  refine thenQ_n ?_
  refine WC.region ?_
  refine W1 (OpT.iadd .i64 (((i : Nat) : Int)) (1) (((i + 1 : Nat) : Int)) hs6 rfl (wadd (a := i) (b := 1) (by omega)) ?_)
  refine W1 (OpT.move (ni (i + 1)) rfl ?_)
  refine WL.nil ?_
  exact loopQ_n _ (by omega) ⟨i + 1, rfl, by omega, fun j x hj hx => by
        rcases Nat.lt_succ_iff_lt_or_eq.1 hj with hj | rfl
        · exact HP.out j x hj hx
        · rw [hx12] at hx; cases hx; assumption, rfl, hs7, hs8, hs9, st21⟩
 refine WC.exit ?_
 refine thenQ_x ?_
 refine loopQ_x ?_
 refine blkQ_hit ?_
 refine thenQ_n ?_
 refine Wsr ?_
 refine W1 (OpT.assign (ii (-1)) rfl ?_)
 refine Wnt ?_
 refine WC.ret <| retQ.one (ii (-1)) rfl ?_
 exact ⟨_, rfl, by rw [idxOf_none p xs (fun j x hj hx => HP.out j x (by omega) hx)], st4⟩

theorem ContainsFunc_Exp {Z : Nat → Prop} {w0 w : World} {L : List Res} (st : St Z w0 w L) {v : Value} {xs : List Exp} (h : rExp.sl Z w0 v xs) (k : Nat) (ok : CallOk Tryz.prog k) (cap : List Value) (p : Exp → Bool) (hp : ∀ (w' : World) (cs : List Value) (x : Exp), x ∈ xs → St Z w0 w' L → rExp.R Z w0 cs x → Calls Tryz.prog k (.agg cs.toArray :: cap).toArray w' (Ret fun r w'' => r = .bool (p x) ∧ St Z w0 w'' L)) : Calls Tryz.prog 137 #[v, (.func (.func k) #[] (cap).toArray)] w (Ret fun r w' => r = .bool (xs.any p) ∧ St Z w0 w' L) := by
 refine calls_of_WC (m := 9) (rs := [.tmp 4]) Tryz.func137 rfl rfl rfl rfl ?_
 refine Wsr ?_
 refine W1 (OpT.assign (.bool false) rfl ?_)
 refine Wns ?_
 refine W1 (OpT.move v rfl ?_)
 refine W1 (OpT.move (.func (.func k) #[] (cap).toArray) rfl ?_)
 refine W1 (OpT.callS cal140 [] [] [v, (.func (.func k) #[] (cap).toArray)] rfl (ca2 rfl rfl) (IndexFunc_Exp st h k ok cap p hp) ?_)
 rintro v1 w2 ⟨rfl, st3⟩
 refine W1 (OpT.ige .i64 (idxOf p xs) (0) rfl rfl ?_)
 refine W1 (OpT.assign (.bool (decide (0 ≤ (idxOf p xs)))) rfl ?_)
 refine Wnt ?_
 refine WC.ret <| retQ.one (.bool (decide (0 ≤ (idxOf p xs)))) rfl ?_
 exact ⟨_, rfl, by rw [idxOf_any], st3⟩

theorem IndexFunc_Rul {Z : Nat → Prop} {w0 w : World} {L : List Res} (st : St Z w0 w L) {v : Value} {xs : List Rul} (h : rRul.sl Z w0 v xs) (k : Nat) (ok : CallOk Tryz.prog k) (cap : List Value) (p : Rul → Bool) (hp : ∀ (w' : World) (cs : List Value) (x : Rul), x ∈ xs → St Z w0 w' L → rRul.R Z w0 cs x → Calls Tryz.prog k (.agg cs.toArray :: cap).toArray w' (Ret fun r w'' => r = .bool (p x) ∧ St Z w0 w'' L)) : Calls Tryz.prog 64 #[v, (.func (.func k) #[] (cap).toArray)] w (Ret fun r w' => r = .int .i64 (idxOf p xs) ∧ St Z w0 w' L) := by
 refine calls_of_WC (m := 19) (rs := [.tmp 4]) Tryz.func64 rfl rfl rfl rfl ?_
 refine Wsr ?_
 refine W1 (OpT.assign (ii 0) rfl ?_)
 refine Wnt ?_
 refine WC.seq ?_
 refine Wsr ?_
 refine W1 (OpT.move v rfl ?_)
 refine W1 (OpT.lenR rfl tu22 h rfl ?_)
 refine W1 (OpT.move (ii 0) rfl ?_)
 refine Wnt ?_
 refine WC.block ?_
 refine WC.loop (fun m ρ wz => ∃ (i : Nat), m = xs.length - i ∧ i ≤ xs.length ∧ Hid (∀ (j : Nat) x, j < i → xs[j]? = some x → p x = false) ∧ ρ 8 = (ni i) ∧ ρ 0 = v ∧ ρ 1 = (.func (.func k) #[] (cap).toArray) ∧ ρ 7 = (ni (xs.length)) ∧ St Z w0 wz (L)) _ ⟨0, rfl, by omega, fun j x hj => absurd hj (Nat.not_lt_zero _), rfl, rfl, rfl, rfl, st⟩ ?_
 rintro m1 ρ2 w3 ⟨i, hm10, hp5, HP, hs6, hs7, hs8, hs9, st4⟩
 have hxl := Rl.sl_le h
 refine Wsr ?_
 refine W1 (OpT.ilt .i64 (((i : Nat) : Int)) (((xs.length : Nat) : Int)) hs6 hs9 ?_)
 refine Wnt ?_
 refine WC.seq ?_
 refine WC.condP (((i : Nat) : Int) < ((xs.length : Nat) : Int)) rfl (fun h11 => ?_) (fun h11 => ?_)
 ·refine WC.skip ?_
  refine thenQ_n ?_
  refine WC.seq ?_
  refine WC.block ?_
  refine Wsr ?_
  refine W1 (OpT.move (ni i) hs6 ?_)
  refine W1 (OpT.assign (ni i) rfl ?_)
  refine Wns ?_
  refine W1 (OpT.move (.func (.func k) #[] (cap).toArray) hs8 ?_)
  refine W1 (OpT.move v hs7 ?_)
  refine W1 (OpT.move (ni i) rfl ?_)
  obtain ⟨x12, hx12⟩ : ∃ x, (xs)[i]? = some x := ⟨_, List.getElem?_eq_getElem (by omega)⟩
  refine W1 (OpT.idxX tu22 ts54 h rfl .i64 (i) rfl hx12 (fun ad13 cs14 hr15 hR16 => ?_))
  have hR16c := hR16
  obtain ⟨hv17, bv18, rfl, hh19, hb20⟩ := hR16
  refine W1 (OpT.loadA ad13 3 [(.string x12.pred), hv17, bv18] ta54 ts54 rfl ((hr15.at st4).part 0 3) rfl ?_)
  refine W1 (OpT.callS ok [] cap ((.agg #[(.string x12.pred), hv17, bv18]) :: cap) rfl (ca1 rfl) (hp _ _ _ (List.mem_of_getElem? hx12) st4 hR16c) ?_)
  rintro v21 w22 ⟨rfl, st23⟩
  refine Wnt ?_
  refine WC.cond ((p x12)) rfl (fun h24 => ?_) (fun h24 => ?_)
  ·refine WC.seq ?_
   refine WC.region ?_
   refine W1 (OpT.move (ni i) rfl ?_)
   refine W1 (OpT.assign (ni i) rfl ?_)
   refine Wnt ?_
   refine WC.ret <| blkQ_r <| thenQ_r <| loopQ_r <| blkQ_r <| thenQ_r <| retQ.one (ni i) rfl ?_
   exact ⟨_, rfl, by rw [idxOf_some p xs i _ hx12 HP.out ‹_›], st23⟩
  refine WC.skip ?_
  refine blkQ_n ?_
  refine thenQ_n ?_
  refine WC.region ?_
  refine W1 (OpT.iadd .i64 (((i : Nat) : Int)) (1) (((i + 1 : Nat) : Int)) hs6 rfl (wadd (a := i) (b := 1) (by omega)) ?_)
  refine W1 (OpT.move (ni (i + 1)) rfl ?_)
  refine WL.nil ?_
  exact loopQ_n _ (by omega) ⟨i + 1, rfl, by omega, fun j x hj hx => by
        rcases Nat.lt_succ_iff_lt_or_eq.1 hj with hj | rfl
        · exact HP.out j x hj hx
        · rw [hx12] at hx; cases hx; assumption, rfl, hs7, hs8, hs9, st23⟩
 refine WC.exit ?_
 refine thenQ_x ?_
 refine loopQ_x ?_
 refine blkQ_hit ?_
 refine thenQ_n ?_
 refine Wsr ?_
 refine W1 (OpT.assign (ii (-1)) rfl ?_)
 refine Wnt ?_
 refine WC.ret <| retQ.one (ii (-1)) rfl ?_
 exact ⟨_, rfl, by rw [idxOf_none p xs (fun j x hj hx => HP.out j x (by omega) hx)], st4⟩

theorem ContainsFunc_Rul {Z : Nat → Prop} {w0 w : World} {L : List Res} (st : St Z w0 w L) {v : Value} {xs : List Rul} (h : rRul.sl Z w0 v xs) (k : Nat) (ok : CallOk Tryz.prog k) (cap : List Value) (p : Rul → Bool) (hp : ∀ (w' : World) (cs : List Value) (x : Rul), x ∈ xs → St Z w0 w' L → rRul.R Z w0 cs x → Calls Tryz.prog k (.agg cs.toArray :: cap).toArray w' (Ret fun r w'' => r = .bool (p x) ∧ St Z w0 w'' L)) : Calls Tryz.prog 40 #[v, (.func (.func k) #[] (cap).toArray)] w (Ret fun r w' => r = .bool (xs.any p) ∧ St Z w0 w' L) := by
 refine calls_of_WC (m := 9) (rs := [.tmp 4]) Tryz.func40 rfl rfl rfl rfl ?_
 refine Wsr ?_
 refine W1 (OpT.assign (.bool false) rfl ?_)
 refine Wns ?_
 refine W1 (OpT.move v rfl ?_)
 refine W1 (OpT.move (.func (.func k) #[] (cap).toArray) rfl ?_)
 refine W1 (OpT.callS cal64 [] [] [v, (.func (.func k) #[] (cap).toArray)] rfl (ca2 rfl rfl) (IndexFunc_Rul st h k ok cap p hp) ?_)
 rintro v1 w2 ⟨rfl, st3⟩
 refine W1 (OpT.ige .i64 (idxOf p xs) (0) rfl rfl ?_)
 refine W1 (OpT.assign (.bool (decide (0 ≤ (idxOf p xs)))) rfl ?_)
 refine Wnt ?_
 refine WC.ret <| retQ.one (.bool (decide (0 ≤ (idxOf p xs)))) rfl ?_
 exact ⟨_, rfl, by rw [idxOf_any], st3⟩

end Go.Ped
set_option linter.unusedVariables false
set_option maxRecDepth 20000
namespace Go.Ped
open Go Go.Eng Go.RowKit Go.Proofs

theorem tf72_0 : fieldB Tryz.prog 72 0 = some 0 := by kernel_rfl
theorem ta64 : aggB Tryz.prog 64 = some false := by kernel_rfl
theorem tf72_1 : fieldB Tryz.prog 72 1 = some 1 := by kernel_rfl
theorem cal107 : CallOk Tryz.prog 107 := ⟨⟨Tryz.f107, Tryz.func107, rfl, by decide⟩⟩
theorem tf72_2 : fieldB Tryz.prog 72 2 = some 5 := by kernel_rfl
theorem ta70 : aggB Tryz.prog 70 = some false := by kernel_rfl
theorem ta3 : aggB Tryz.prog 3 = some false := by kernel_rfl
theorem cal128 : CallOk Tryz.prog 128 := ⟨⟨Tryz.f128, Tryz.func128, rfl, by decide⟩⟩
theorem cal106 : CallOk Tryz.prog 106 := ⟨⟨Tryz.f106, Tryz.func106, rfl, by decide⟩⟩
theorem fmix : Tryz.prog.follows .mixedOrders = true := by kernel_rfl
theorem cal136 : CallOk Tryz.prog 136 := ⟨⟨Tryz.f136, Tryz.func136, rfl, by decide⟩⟩
theorem cal138 : CallOk Tryz.prog 138 := ⟨⟨Tryz.f138, Tryz.func138, rfl, by decide⟩⟩
theorem cal137 : CallOk Tryz.prog 137 := ⟨⟨Tryz.f137, Tryz.func137, rfl, by decide⟩⟩
theorem tf62_0 : fieldB Tryz.prog 62 0 = some 0 := by kernel_rfl
theorem cal86 : CallOk Tryz.prog 86 := ⟨⟨Tryz.f86, Tryz.func86, rfl, by decide⟩⟩
theorem tf62_1 : fieldB Tryz.prog 62 1 = some 1 := by kernel_rfl
theorem ta60 : aggB Tryz.prog 60 = some false := by kernel_rfl
theorem cal127 : CallOk Tryz.prog 127 := ⟨⟨Tryz.f127, Tryz.func127, rfl, by decide⟩⟩
theorem cal126 : CallOk Tryz.prog 126 := ⟨⟨Tryz.f126, Tryz.func126, rfl, by decide⟩⟩
theorem tf102_0 : fieldB Tryz.prog 102 0 = some 0 := by kernel_rfl
theorem ta100 : aggB Tryz.prog 100 = some false := by kernel_rfl
theorem tf102_1 : fieldB Tryz.prog 102 1 = some 1 := by kernel_rfl
theorem tf74_0 : fieldB Tryz.prog 74 0 = some 0 := by kernel_rfl
theorem ta59 : aggB Tryz.prog 59 = some false := by kernel_rfl
theorem tf74_2 : fieldB Tryz.prog 74 2 = some 3 := by kernel_rfl
theorem ta63 : aggB Tryz.prog 63 = some false := by kernel_rfl
theorem tf74_3 : fieldB Tryz.prog 74 3 = some 4 := by kernel_rfl
theorem cal108 : CallOk Tryz.prog 108 := ⟨⟨Tryz.f108, Tryz.func108, rfl, by decide⟩⟩
theorem tf74_4 : fieldB Tryz.prog 74 4 = some 10 := by kernel_rfl
theorem tf74_1 : fieldB Tryz.prog 74 1 = some 1 := by kernel_rfl
theorem ta62 : aggB Tryz.prog 62 = some true := by kernel_rfl
theorem ts62 : sizeB Tryz.prog 62 = some 2 := by kernel_rfl
theorem cal109 : CallOk Tryz.prog 109 := ⟨⟨Tryz.f109, Tryz.func109, rfl, by decide⟩⟩
theorem cal110 : CallOk Tryz.prog 110 := ⟨⟨Tryz.f110, Tryz.func110, rfl, by decide⟩⟩
def emptyB (e : Exp) : Bool := decide (e.op = 0) && (decide (e.term = zTrm) && decide ((e.kids.length : Int) = 0))
theorem empty_spec {Z : Nat → Prop} {w0 w : World} {L : List Res} (st : St Z w0 w L) (e : Exp) (kv : Value) (hk : rExp.sl Z w0 kv e.kids) : Calls Tryz.prog 108 #[(.agg #[(.int .i8 (e.op)), (.string e.term.var), (.int .i8 (e.term.val.kind)), (.int .i64 (e.term.val.num)), (.string e.term.val.text), kv])] w (Ret fun r w' => r = .bool (emptyB e) ∧ St Z w0 w' L) := by
 refine calls_of_WC (m := 17) (rs := [.tmp 2]) Tryz.func108 rfl rfl rfl rfl ?_
 refine Wsr ?_
 refine W1 (OpT.box st (.agg #[(.int .i8 (e.op)), (.string e.term.var), (.int .i8 (e.term.val.kind)), (.int .i64 (e.term.val.num)), (.string e.term.val.text), kv]) [(.int .i8 (e.op)), (.string e.term.var), (.int .i8 (e.term.val.kind)), (.int .i64 (e.term.val.num)), (.string e.term.val.text), kv] rfl rfl (fun b1 w2 st3 => ?_))
 refine W1 (OpT.assign (.bool false) rfl ?_)
 refine Wns ?_
 refine W1 (OpT.field 0 ⟨b1, 0, none⟩ ⟨b1, 0, none⟩ tf72_0 rfl rfl ?_)
 refine W1 (OpT.loadS ⟨b1, 0, none⟩ (.int .i8 (e.op)) ta64 rfl (st3.cellB (i := 0) rfl rfl) ?_)
 refine W1 (OpT.ieq .i8 (e.op) (0) rfl rfl ?_)
 refine W1 (OpT.move (.bool (decide (e.op = 0))) rfl ?_)
 by_cases h4 : e.op = 0
 ·refine W2 (dj := 6) (bT h4) (OpT.field 1 ⟨b1, 0, none⟩ ⟨b1, 1, none⟩ tf72_1 rfl rfl ?_)
  refine W2 (dj := 6) (bT h4) (OpT.loadA ⟨b1, 1, none⟩ 4 [(.string e.term.var), (.int .i8 (e.term.val.kind)), (.int .i64 (e.term.val.num)), (.string e.term.val.text)] ta69 ts69 rfl ((st3.rowB (i := 0) rfl).part 1 4) rfl ?_)
  refine W2 (dj := 6) (bT h4) (OpT.callS cal107 [] [] [(.agg #[(.string e.term.var), (.int .i8 (e.term.val.kind)), (.int .i64 (e.term.val.num)), (.string e.term.val.text)])] rfl (ca1 rfl) (none_spec st3 e.term) ?_)
  rintro v5 w6 ⟨rfl, st7⟩
  refine W1 (OpT.pickT (.bool (decide (e.term = zTrm))) (bT h4) rfl ?_)
  refine W1 (OpT.move (.bool (decide (e.term = zTrm))) rfl ?_)
  by_cases h8 : e.term = zTrm
  ·refine W2 (dj := 11) (bT h8) (OpT.field 5 ⟨b1, 0, none⟩ ⟨b1, 5, none⟩ tf72_2 rfl rfl ?_)
   refine W2 (dj := 11) (bT h8) (OpT.loadS ⟨b1, 5, none⟩ kv ta70 rfl (st7.cellB (i := 0) rfl rfl) ?_)
   refine W2 (dj := 11) (bT h8) (OpT.lenR rfl tu70 hk rfl ?_)
   refine W2 (dj := 11) (bT h8) (OpT.ieq .i64 (((e.kids.length : Nat) : Int)) (0) rfl rfl ?_)
   refine W1 (OpT.pickT (.bool (decide (((e.kids.length : Nat) : Int) = 0))) (bT h8) rfl ?_)
   refine W1 (OpT.assign (.bool (decide (((e.kids.length : Nat) : Int) = 0))) rfl ?_)
   refine Wnt ?_
   refine WC.ret <| retQ.one (.bool (decide (((e.kids.length : Nat) : Int) = 0))) rfl ?_
   exact ⟨_, rfl, by simp [emptyB, *], (St.selT [Blk b1 72 [(.int .i8 (e.op)), (.string e.term.var), (.int .i8 (e.term.val.kind)), (.int .i64 (e.term.val.num)), (.string e.term.val.text), kv]] [] rfl (by decide) st7)⟩
  refine WL.pass (dj := 11) (c := false) rfl rfl rfl (bF h8) rfl ?_
  refine WL.pass (dj := 11) (c := false) rfl rfl rfl (bF h8) rfl ?_
  refine WL.pass (dj := 11) (c := false) rfl rfl rfl (bF h8) rfl ?_
  refine WL.pass (dj := 11) (c := false) rfl rfl rfl (bF h8) rfl ?_
  refine W1 (OpT.pickF (.bool false) (bF h8) rfl ?_)
  refine W1 (OpT.assign (.bool false) rfl ?_)
  refine Wnt ?_
  refine WC.ret <| retQ.one (.bool false) rfl ?_
  exact ⟨_, rfl, by simp [emptyB, *], (St.selT [Blk b1 72 [(.int .i8 (e.op)), (.string e.term.var), (.int .i8 (e.term.val.kind)), (.int .i64 (e.term.val.num)), (.string e.term.val.text), kv]] [] rfl (by decide) st7)⟩
 refine WL.pass (dj := 6) (c := false) rfl rfl rfl (bF h4) rfl ?_
 refine WL.pass (dj := 6) (c := false) rfl rfl rfl (bF h4) rfl ?_
 refine WL.pass (dj := 6) (c := false) rfl rfl rfl (bF h4) rfl ?_
 refine W1 (OpT.pickF (.bool false) (bF h4) rfl ?_)
 refine W1 (OpT.move (.bool false) rfl ?_)
 refine WL.pass (dj := 11) (c := false) rfl rfl rfl rfl rfl ?_
 refine WL.pass (dj := 11) (c := false) rfl rfl rfl rfl rfl ?_
 refine WL.pass (dj := 11) (c := false) rfl rfl rfl rfl rfl ?_
 refine WL.pass (dj := 11) (c := false) rfl rfl rfl rfl rfl ?_
 refine W1 (OpT.pickF (.bool false) rfl rfl ?_)
 refine W1 (OpT.assign (.bool false) rfl ?_)
 refine Wnt ?_
 refine WC.ret <| retQ.one (.bool false) rfl ?_
 exact ⟨_, rfl, by simp [emptyB, *], (St.selT [Blk b1 72 [(.int .i8 (e.op)), (.string e.term.var), (.int .i8 (e.term.val.kind)), (.int .i64 (e.term.val.num)), (.string e.term.val.text), kv]] [] rfl (by decide) st3)⟩

def deepB : Nat → Exp → Bool
  | 0, _ => false
  | n + 1, e => if e.op = 0 then decide ((e.kids.length : Int) = 0) && solidB e.term else if ¬ e.term = zTrm then false else if (e.kids.length : Int) ≠ arityF e.op then false else !(e.kids.any (fun k => !deepB n k))
theorem deep_zero {Z : Nat → Prop} {w0 w : World} {L : List Res} (st : St Z w0 w L) (e : Exp) (kv : Value) (hk : rExp.sl Z w0 kv e.kids) : Calls Tryz.prog 128 #[(.agg #[(.int .i8 (e.op)), (.string e.term.var), (.int .i8 (e.term.val.kind)), (.int .i64 (e.term.val.num)), (.string e.term.val.text), kv]), (ni 0)] w (Ret fun r w' => r = .bool (deepB 0 e) ∧ St Z w0 w' L) := by
 have h00 : ((0 : Nat) : Int) = 0 := rfl
 refine calls_of_WC (m := 37) (rs := [.tmp 4]) Tryz.func128 rfl rfl rfl rfl ?_
 refine Wsr ?_
 refine W1 (OpT.box st (.agg #[(.int .i8 (e.op)), (.string e.term.var), (.int .i8 (e.term.val.kind)), (.int .i64 (e.term.val.num)), (.string e.term.val.text), kv]) [(.int .i8 (e.op)), (.string e.term.var), (.int .i8 (e.term.val.kind)), (.int .i64 (e.term.val.num)), (.string e.term.val.text), kv] rfl rfl (fun b1 w2 st3 => ?_))
 refine W1 (OpT.box st3 (ni 0) [(ni 0)] rfl rfl (fun b4 w5 st6 => ?_))
 refine W1 (OpT.assign (.bool false) rfl ?_)
 refine Wnt ?_
 refine WC.seq ?_
 refine Wsr ?_
 refine W1 (OpT.loadS ⟨b4, 0, none⟩ (ni 0) ta3 rfl (st6.cellB (i := 0) rfl rfl) ?_)
 refine W1 (OpT.ieq .i64 (((0 : Nat) : Int)) (0) rfl rfl ?_)
 refine Wnt ?_
 refine WC.condT (bT h00) ?_
 refine Wsr ?_
 refine W1 (OpT.assign (.bool false) rfl ?_)
 refine Wnt ?_
 refine WC.ret <| thenQ_r <| retQ.one (.bool false) rfl ?_
 exact ⟨_, rfl, rfl, (St.selT [Blk b4 3 [(ni 0)], Blk b1 72 [(.int .i8 (e.op)), (.string e.term.var), (.int .i8 (e.term.val.kind)), (.int .i64 (e.term.val.num)), (.string e.term.val.text), kv]] [] rfl (by decide) st6)⟩

theorem deep1_spec (n : Nat) (hn : n < 1000) (ih : ∀ {Z : Nat → Prop} {w0 w : World} {L : List Res} (_ : St Z w0 w L) (e : Exp) (kv : Value) (_ : rExp.sl Z w0 kv e.kids), Calls Tryz.prog 128 #[(.agg #[(.int .i8 (e.op)), (.string e.term.var), (.int .i8 (e.term.val.kind)), (.int .i64 (e.term.val.num)), (.string e.term.val.text), kv]), (.int .i64 ((n : Nat) : Int))] w (Ret fun r w' => r = .bool (deepB (n) e) ∧ St Z w0 w' L)) {Z : Nat → Prop} {w0 w : World} {L : List Res} (b : Nat) (st : St Z w0 w (Blk b 3 [(ni (n + 1))] :: L)) (e : Exp) (kv : Value) (hk : rExp.sl Z w0 kv e.kids) : Calls Tryz.prog 138 #[(.agg #[(.int .i8 (e.op)), (.string e.term.var), (.int .i8 (e.term.val.kind)), (.int .i64 (e.term.val.num)), (.string e.term.val.text), kv]), (pt b 0)] w (Ret fun r w' => r = .bool (!deepB n e) ∧ St Z w0 w' (Blk b 3 [(ni (n + 1))] :: L)) := by
 refine calls_of_WC (m := 9) (rs := [.tmp 3]) Tryz.func138 rfl rfl rfl rfl ?_
 refine Wsr ?_
 refine W1 (OpT.box st (.agg #[(.int .i8 (e.op)), (.string e.term.var), (.int .i8 (e.term.val.kind)), (.int .i64 (e.term.val.num)), (.string e.term.val.text), kv]) [(.int .i8 (e.op)), (.string e.term.var), (.int .i8 (e.term.val.kind)), (.int .i64 (e.term.val.num)), (.string e.term.val.text), kv] rfl rfl (fun b1 w2 st3 => ?_))
 refine W1 (OpT.assign (.bool false) rfl ?_)
 refine Wns ?_
 refine W1 (OpT.loadA ⟨b1, 0, none⟩ 6 [(.int .i8 (e.op)), (.string e.term.var), (.int .i8 (e.term.val.kind)), (.int .i64 (e.term.val.num)), (.string e.term.val.text), kv] ta72 ts72 rfl ((st3.rowB (i := 0) rfl).part 0 6) rfl ?_)
 refine W1 (OpT.loadS ⟨b, 0, none⟩ (ni (n + 1)) ta3 rfl (st3.cellB (i := 1) rfl rfl) ?_)
 refine W1 (OpT.isub .i64 (((n + 1 : Nat) : Int)) (1) (((n : Nat) : Int)) rfl rfl (wsub1 (by omega)) ?_)
 refine W1 (OpT.callS cal128 [] [] [(.agg #[(.int .i8 (e.op)), (.string e.term.var), (.int .i8 (e.term.val.kind)), (.int .i64 (e.term.val.num)), (.string e.term.val.text), kv]), (ni n)] rfl (ca2 rfl rfl) (ih st3 e _ hk) ?_)
 rintro v4 w5 ⟨rfl, st6⟩
 refine W1 (OpT.not (deepB n e) rfl ?_)
 refine W1 (OpT.assign (.bool (!(deepB n e))) rfl ?_)
 refine Wnt ?_
 refine WC.ret <| retQ.one (.bool (!(deepB n e))) rfl ?_
 exact ⟨_, rfl, rfl, (St.selT [Blk b1 72 [(.int .i8 (e.op)), (.string e.term.var), (.int .i8 (e.term.val.kind)), (.int .i64 (e.term.val.num)), (.string e.term.val.text), kv], Blk b 3 [(ni (n + 1))]] [1] rfl (by decide) st6)⟩

theorem deep_succ (n : Nat) (hn : n < 1000) (ih : ∀ {Z : Nat → Prop} {w0 w : World} {L : List Res} (_ : St Z w0 w L) (e : Exp) (kv : Value) (_ : rExp.sl Z w0 kv e.kids), Calls Tryz.prog 128 #[(.agg #[(.int .i8 (e.op)), (.string e.term.var), (.int .i8 (e.term.val.kind)), (.int .i64 (e.term.val.num)), (.string e.term.val.text), kv]), (.int .i64 ((n : Nat) : Int))] w (Ret fun r w' => r = .bool (deepB (n) e) ∧ St Z w0 w' L)) {Z : Nat → Prop} {w0 w : World} {L : List Res} (st : St Z w0 w L) (e : Exp) (kv : Value) (hk : rExp.sl Z w0 kv e.kids) : Calls Tryz.prog 128 #[(.agg #[(.int .i8 (e.op)), (.string e.term.var), (.int .i8 (e.term.val.kind)), (.int .i64 (e.term.val.num)), (.string e.term.val.text), kv]), (ni (n + 1))] w (Ret fun r w' => r = .bool (deepB (n + 1) e) ∧ St Z w0 w' L) := by
 have hne : ¬ ((n + 1 : Nat) : Int) = 0 := by omega
 have hkl := Rl.sl_le hk
 refine calls_of_WC (m := 37) (rs := [.tmp 4]) Tryz.func128 rfl rfl rfl rfl ?_
 refine Wsr ?_
 refine W1 (OpT.box st (.agg #[(.int .i8 (e.op)), (.string e.term.var), (.int .i8 (e.term.val.kind)), (.int .i64 (e.term.val.num)), (.string e.term.val.text), kv]) [(.int .i8 (e.op)), (.string e.term.var), (.int .i8 (e.term.val.kind)), (.int .i64 (e.term.val.num)), (.string e.term.val.text), kv] rfl rfl (fun b1 w2 st3 => ?_))
 refine W1 (OpT.box st3 (ni (n + 1)) [(ni (n + 1))] rfl rfl (fun b4 w5 st6 => ?_))
 refine W1 (OpT.assign (.bool false) rfl ?_)
 refine Wnt ?_
 refine WC.seq ?_
 refine Wsr ?_
 refine W1 (OpT.loadS ⟨b4, 0, none⟩ (ni (n + 1)) ta3 rfl (st6.cellB (i := 0) rfl rfl) ?_)
 refine W1 (OpT.ieq .i64 (((n + 1 : Nat) : Int)) (0) rfl rfl ?_)
 refine Wnt ?_
 refine WC.condF (bF hne) ?_
 refine WC.skip ?_
 refine thenQ_n ?_
 refine WC.seq ?_
 refine Wsr ?_
 refine W1 (OpT.field 0 ⟨b1, 0, none⟩ ⟨b1, 0, none⟩ tf72_0 rfl rfl ?_)
 refine W1 (OpT.loadS ⟨b1, 0, none⟩ (.int .i8 (e.op)) ta64 rfl (st6.cellB (i := 1) rfl rfl) ?_)
 refine W1 (OpT.ieq .i8 (e.op) (0) rfl rfl ?_)
 refine Wnt ?_
 refine WC.condP (e.op = 0) rfl (fun h7 => ?_) (fun h7 => ?_)
 ·refine WC.seq ?_
  refine WC.region ?_
  refine W1 (OpT.field 5 ⟨b1, 0, none⟩ ⟨b1, 5, none⟩ tf72_2 rfl rfl ?_)
  refine W1 (OpT.loadS ⟨b1, 5, none⟩ kv ta70 rfl (st6.cellB (i := 1) rfl rfl) ?_)
  refine W1 (OpT.lenR rfl tu70 hk rfl ?_)
  refine W1 (OpT.ieq .i64 (((e.kids.length : Nat) : Int)) (0) rfl rfl ?_)
  refine W1 (OpT.move (.bool (decide (((e.kids.length : Nat) : Int) = 0))) rfl ?_)
  by_cases h8 : ((e.kids.length : Nat) : Int) = 0
  ·refine W2 (dj := 14) (bT h8) (OpT.field 1 ⟨b1, 0, none⟩ ⟨b1, 1, none⟩ tf72_1 rfl rfl ?_)
   refine W2 (dj := 14) (bT h8) (OpT.loadA ⟨b1, 1, none⟩ 4 [(.string e.term.var), (.int .i8 (e.term.val.kind)), (.int .i64 (e.term.val.num)), (.string e.term.val.text)] ta69 ts69 rfl ((st6.rowB (i := 1) rfl).part 1 4) rfl ?_)
   refine W2 (dj := 14) (bT h8) (OpT.callS cal106 [] [] [(.agg #[(.string e.term.var), (.int .i8 (e.term.val.kind)), (.int .i64 (e.term.val.num)), (.string e.term.val.text)])] rfl (ca1 rfl) (solid_spec st6 e.term) ?_)
   rintro v9 w10 ⟨rfl, st11⟩
   refine W1 (OpT.pickT (.bool (solidB e.term)) (bT h8) rfl ?_)
   refine W1 (OpT.assign (.bool (solidB e.term)) rfl ?_)
   refine Wnt ?_
   refine WC.ret <| thenQ_r <| retQ.one (.bool (solidB e.term)) rfl ?_
   exact ⟨_, rfl, by simp only [deepB]; simp_all, (St.selT [Blk b4 3 [(ni (n + 1))], Blk b1 72 [(.int .i8 (e.op)), (.string e.term.var), (.int .i8 (e.term.val.kind)), (.int .i64 (e.term.val.num)), (.string e.term.val.text), kv]] [] rfl (by decide) st11)⟩
  refine WL.pass (dj := 14) (c := false) rfl rfl rfl (bF h8) rfl ?_
  refine WL.pass (dj := 14) (c := false) rfl rfl rfl (bF h8) rfl ?_
  refine WL.pass (dj := 14) (c := false) rfl rfl rfl (bF h8) rfl ?_
  refine W1 (OpT.pickF (.bool false) (bF h8) rfl ?_)
  refine W1 (OpT.assign (.bool false) rfl ?_)
  refine Wnt ?_
  refine WC.ret <| thenQ_r <| retQ.one (.bool false) rfl ?_
  exact ⟨_, rfl, by simp only [deepB]; simp_all, (St.selT [Blk b4 3 [(ni (n + 1))], Blk b1 72 [(.int .i8 (e.op)), (.string e.term.var), (.int .i8 (e.term.val.kind)), (.int .i64 (e.term.val.num)), (.string e.term.val.text), kv]] [] rfl (by decide) st6)⟩
 refine WC.skip ?_
 refine thenQ_n ?_
 refine WC.seq ?_
 refine WC.seq ?_
 by_cases h12 : ¬ (e.term = zTrm)
 ·refine WC.draw 13 (fun jj vv => match jj with | 0 => vv = (pt b1 1) | 1 => vv = (.agg #[(.string e.term.var), (.int .i8 (e.term.val.kind)), (.int .i64 (e.term.val.num)), (.string e.term.val.text)]) | 2 => vv = (.bool (decide (e.term = zTrm))) | 3 => vv = (.bool (decide (¬ (e.term = zTrm)))) | 4 => vv = (.bool (decide (¬ (e.term = zTrm)))) | 5 => vv = undef | 6 => vv = undef | 7 => vv = undef | 8 => vv = undef | 9 => vv = undef | 10 => vv = undef | 11 => vv = undef | 12 => vv = (.bool true) | _ => True) (fun _ _ => []) st6 fmix (by kernel_rfl) ((obS (obS (obS (obS (obS (obS (obS (obS (obS (obS (obS (obS (obS ob0 ?_) ?_) ?_) ?_) ?_) ?_) ?_) ?_) ?_) ?_) ?_) ?_) ?_)) ?_
  ·intro vals ρ w14 X hd h0 st13
   have e15 : ρ 2 = (pt b1 0) := (h0 2 rfl).trans rfl
   refine W1 (OpT.field 1 ⟨b1, 0, none⟩ ⟨b1, 1, none⟩ tf72_1 e15 rfl ?_)
   refine WL.nil ?_
   exact oneQ.mk ⟨rfl, st13⟩
  ·intro vals ρ w17 X hd h0 st16
   have e18 : ρ 19 = (pt b1 1) := ((hd 0 rfl).2 19 rfl).trans (hd 0 rfl).1
   refine W1 (OpT.loadA ⟨b1, 1, none⟩ 4 [(.string e.term.var), (.int .i8 (e.term.val.kind)), (.int .i64 (e.term.val.num)), (.string e.term.val.text)] ta69 ts69 e18 ((st16.rowB (i := 1) rfl).part 1 4) rfl ?_)
   refine WL.nil ?_
   exact oneQ.mk ⟨rfl, st16⟩
  ·intro vals ρ w20 X hd h0 st19
   have e21 : ρ 20 = (.agg #[(.string e.term.var), (.int .i8 (e.term.val.kind)), (.int .i64 (e.term.val.num)), (.string e.term.val.text)]) := ((hd 1 rfl).2 20 rfl).trans (hd 1 rfl).1
   refine W1 (OpT.callS cal107 [] [] [(.agg #[(.string e.term.var), (.int .i8 (e.term.val.kind)), (.int .i64 (e.term.val.num)), (.string e.term.val.text)])] rfl (ca1 e21) (none_spec st19 e.term) ?_)
   rintro v22 w23 ⟨rfl, st24⟩
   refine WL.nil ?_
   exact oneQ.mk ⟨rfl, st24⟩
  ·intro vals ρ w26 X hd h0 st25
   have e27 : ρ 21 = (.bool (decide (e.term = zTrm))) := ((hd 2 rfl).2 21 rfl).trans (hd 2 rfl).1
   refine W1 (OpT.notP (e.term = zTrm) e27 ?_)
   refine WL.nil ?_
   exact oneQ.mk ⟨rfl, st25⟩
  ·intro vals ρ w29 X hd h0 st28
   have e30 : ρ 22 = (.bool (decide (¬ (e.term = zTrm)))) := ((hd 3 rfl).2 22 rfl).trans (hd 3 rfl).1
   refine W1 (OpT.move (.bool (decide (¬ (e.term = zTrm)))) e30 ?_)
   refine WL.nil ?_
   exact oneQ.mk ⟨rfl, st28⟩
  ·intro vals ρ w32 X hd h0 st31
   have e33 : ρ 2 = (pt b1 0) := (h0 2 rfl).trans rfl
   have e34 : ρ 23 = (.bool (decide (¬ (e.term = zTrm)))) := ((hd 4 rfl).2 23 rfl).trans (hd 4 rfl).1
   refine WL.pass (dj := 23) (c := true) rfl rfl rfl (e34.trans (bT h12)) rfl ?_
   refine WL.nil ?_
   exact oneQ.mk ⟨rfl, st31⟩
  ·intro vals ρ w36 X hd h0 st35
   have e37 : ρ 23 = (.bool (decide (¬ (e.term = zTrm)))) := ((hd 4 rfl).2 23 rfl).trans (hd 4 rfl).1
   have e38 : ρ 24 = undef := ((hd 5 rfl).2 24 rfl).trans (hd 5 rfl).1
   refine WL.pass (dj := 23) (c := true) rfl rfl rfl (e37.trans (bT h12)) rfl ?_
   refine WL.nil ?_
   exact oneQ.mk ⟨rfl, st35⟩
  ·intro vals ρ w40 X hd h0 st39
   have e41 : ρ 23 = (.bool (decide (¬ (e.term = zTrm)))) := ((hd 4 rfl).2 23 rfl).trans (hd 4 rfl).1
   have e42 : ρ 25 = undef := ((hd 6 rfl).2 25 rfl).trans (hd 6 rfl).1
   refine WL.pass (dj := 23) (c := true) rfl rfl rfl (e41.trans (bT h12)) rfl ?_
   refine WL.nil ?_
   exact oneQ.mk ⟨rfl, st39⟩
  ·intro vals ρ w44 X hd h0 st43
   have e45 : ρ 2 = (pt b1 0) := (h0 2 rfl).trans rfl
   have e46 : ρ 23 = (.bool (decide (¬ (e.term = zTrm)))) := ((hd 4 rfl).2 23 rfl).trans (hd 4 rfl).1
   refine WL.pass (dj := 23) (c := true) rfl rfl rfl (e46.trans (bT h12)) rfl ?_
   refine WL.nil ?_
   exact oneQ.mk ⟨rfl, st43⟩
  ·intro vals ρ w48 X hd h0 st47
   have e49 : ρ 23 = (.bool (decide (¬ (e.term = zTrm)))) := ((hd 4 rfl).2 23 rfl).trans (hd 4 rfl).1
   have e50 : ρ 27 = undef := ((hd 8 rfl).2 27 rfl).trans (hd 8 rfl).1
   refine WL.pass (dj := 23) (c := true) rfl rfl rfl (e49.trans (bT h12)) rfl ?_
   refine WL.nil ?_
   exact oneQ.mk ⟨rfl, st47⟩
  ·intro vals ρ w52 X hd h0 st51
   have e53 : ρ 23 = (.bool (decide (¬ (e.term = zTrm)))) := ((hd 4 rfl).2 23 rfl).trans (hd 4 rfl).1
   have e54 : ρ 28 = undef := ((hd 9 rfl).2 28 rfl).trans (hd 9 rfl).1
   refine WL.pass (dj := 23) (c := true) rfl rfl rfl (e53.trans (bT h12)) rfl ?_
   refine WL.nil ?_
   exact oneQ.mk ⟨rfl, st51⟩
  ·intro vals ρ w56 X hd h0 st55
   have e57 : ρ 23 = (.bool (decide (¬ (e.term = zTrm)))) := ((hd 4 rfl).2 23 rfl).trans (hd 4 rfl).1
   have e58 : ρ 26 = undef := ((hd 7 rfl).2 26 rfl).trans (hd 7 rfl).1
   have e59 : ρ 29 = undef := ((hd 10 rfl).2 29 rfl).trans (hd 10 rfl).1
   refine WL.pass (dj := 23) (c := true) rfl rfl rfl (e57.trans (bT h12)) rfl ?_
   refine WL.nil ?_
   exact oneQ.mk ⟨rfl, st55⟩
  ·intro vals ρ w61 X hd h0 st60
   have e62 : ρ 23 = (.bool (decide (¬ (e.term = zTrm)))) := ((hd 4 rfl).2 23 rfl).trans (hd 4 rfl).1
   have e63 : ρ 30 = undef := ((hd 11 rfl).2 30 rfl).trans (hd 11 rfl).1
   refine W1 (OpT.pickT (.bool true) (e62.trans (bT h12)) rfl ?_)
   refine WL.nil ?_
   exact oneQ.mk ⟨rfl, st60⟩
  intro vals ρ66 w65 hv h0 st64
  replace st64 : St Z w0 w65 (Blk b4 3 [(ni (n + 1))] :: Blk b1 72 [(.int .i8 (e.op)), (.string e.term.var), (.int .i8 (e.term.val.kind)), (.int .i64 (e.term.val.num)), (.string e.term.val.text), kv] :: L) := st64
  have e67 : ρ66 2 = (pt b1 0) := (h0 2 rfl).trans rfl
  have e68 : ρ66 3 = (pt b4 0) := (h0 3 rfl).trans rfl
  have e69 : ρ66 31 = (.bool true) := ((hv 12 rfl).2 31 rfl).trans (hv 12 rfl).1
  clear hv h0
  refine Wnt ?_
  refine WC.condT e69 ?_
  refine Wsr ?_
  refine W1 (OpT.assign (.bool false) rfl ?_)
  refine Wnt ?_
  refine WC.ret <| thenQ_r <| retQ.one (.bool false) rfl ?_
  exact ⟨_, rfl, by simp only [deepB]; simp_all, (St.selT [Blk b4 3 [(ni (n + 1))], Blk b1 72 [(.int .i8 (e.op)), (.string e.term.var), (.int .i8 (e.term.val.kind)), (.int .i64 (e.term.val.num)), (.string e.term.val.text), kv]] [] rfl (by decide) st64)⟩
 refine WC.draw 13 (fun jj vv => match jj with | 0 => vv = (pt b1 1) | 1 => vv = (.agg #[(.string e.term.var), (.int .i8 (e.term.val.kind)), (.int .i64 (e.term.val.num)), (.string e.term.val.text)]) | 2 => vv = (.bool (decide (e.term = zTrm))) | 3 => vv = (.bool (decide (¬ (e.term = zTrm)))) | 4 => vv = (.bool (decide (¬ (e.term = zTrm)))) | 5 => vv = (pt b1 5) | 6 => vv = kv | 7 => vv = (ni (e.kids.length)) | 8 => vv = (pt b1 0) | 9 => vv = (.int .i8 (e.op)) | 10 => vv = (.int .i64 (arityF e.op)) | 11 => vv = (.bool (decide (((e.kids.length : Nat) : Int) ≠ (arityF e.op)))) | 12 => vv = (.bool (decide (((e.kids.length : Nat) : Int) ≠ (arityF e.op)))) | _ => True) (fun _ _ => []) st6 fmix (by kernel_rfl) ((obS (obS (obS (obS (obS (obS (obS (obS (obS (obS (obS (obS (obS ob0 ?_) ?_) ?_) ?_) ?_) ?_) ?_) ?_) ?_) ?_) ?_) ?_) ?_)) ?_
 ·intro vals ρ w71 X hd h0 st70
  have e72 : ρ 2 = (pt b1 0) := (h0 2 rfl).trans rfl
  refine W1 (OpT.field 1 ⟨b1, 0, none⟩ ⟨b1, 1, none⟩ tf72_1 e72 rfl ?_)
  refine WL.nil ?_
  exact oneQ.mk ⟨rfl, st70⟩
 ·intro vals ρ w74 X hd h0 st73
  have e75 : ρ 19 = (pt b1 1) := ((hd 0 rfl).2 19 rfl).trans (hd 0 rfl).1
  refine W1 (OpT.loadA ⟨b1, 1, none⟩ 4 [(.string e.term.var), (.int .i8 (e.term.val.kind)), (.int .i64 (e.term.val.num)), (.string e.term.val.text)] ta69 ts69 e75 ((st73.rowB (i := 1) rfl).part 1 4) rfl ?_)
  refine WL.nil ?_
  exact oneQ.mk ⟨rfl, st73⟩
 ·intro vals ρ w77 X hd h0 st76
  have e78 : ρ 20 = (.agg #[(.string e.term.var), (.int .i8 (e.term.val.kind)), (.int .i64 (e.term.val.num)), (.string e.term.val.text)]) := ((hd 1 rfl).2 20 rfl).trans (hd 1 rfl).1
  refine W1 (OpT.callS cal107 [] [] [(.agg #[(.string e.term.var), (.int .i8 (e.term.val.kind)), (.int .i64 (e.term.val.num)), (.string e.term.val.text)])] rfl (ca1 e78) (none_spec st76 e.term) ?_)
  rintro v79 w80 ⟨rfl, st81⟩
  refine WL.nil ?_
  exact oneQ.mk ⟨rfl, st81⟩
 ·intro vals ρ w83 X hd h0 st82
  have e84 : ρ 21 = (.bool (decide (e.term = zTrm))) := ((hd 2 rfl).2 21 rfl).trans (hd 2 rfl).1
  refine W1 (OpT.notP (e.term = zTrm) e84 ?_)
  refine WL.nil ?_
  exact oneQ.mk ⟨rfl, st82⟩
 ·intro vals ρ w86 X hd h0 st85
  have e87 : ρ 22 = (.bool (decide (¬ (e.term = zTrm)))) := ((hd 3 rfl).2 22 rfl).trans (hd 3 rfl).1
  refine W1 (OpT.move (.bool (decide (¬ (e.term = zTrm)))) e87 ?_)
  refine WL.nil ?_
  exact oneQ.mk ⟨rfl, st85⟩
 ·intro vals ρ w89 X hd h0 st88
  have e90 : ρ 2 = (pt b1 0) := (h0 2 rfl).trans rfl
  have e91 : ρ 23 = (.bool (decide (¬ (e.term = zTrm)))) := ((hd 4 rfl).2 23 rfl).trans (hd 4 rfl).1
  refine W2 (dj := 23) (e91.trans (bF h12)) (OpT.field 5 ⟨b1, 0, none⟩ ⟨b1, 5, none⟩ tf72_2 e90 rfl ?_)
  refine WL.nil ?_
  exact oneQ.mk ⟨rfl, st88⟩
 ·intro vals ρ w93 X hd h0 st92
  have e94 : ρ 23 = (.bool (decide (¬ (e.term = zTrm)))) := ((hd 4 rfl).2 23 rfl).trans (hd 4 rfl).1
  have e95 : ρ 24 = (pt b1 5) := ((hd 5 rfl).2 24 rfl).trans (hd 5 rfl).1
  refine W2 (dj := 23) (e94.trans (bF h12)) (OpT.loadS ⟨b1, 5, none⟩ kv ta70 e95 (st92.cellB (i := 1) rfl rfl) ?_)
  refine WL.nil ?_
  exact oneQ.mk ⟨rfl, st92⟩
 ·intro vals ρ w97 X hd h0 st96
  have e98 : ρ 23 = (.bool (decide (¬ (e.term = zTrm)))) := ((hd 4 rfl).2 23 rfl).trans (hd 4 rfl).1
  have e99 : ρ 25 = kv := ((hd 6 rfl).2 25 rfl).trans (hd 6 rfl).1
  refine W2 (dj := 23) (e98.trans (bF h12)) (OpT.lenR rfl tu70 hk e99 ?_)
  refine WL.nil ?_
  exact oneQ.mk ⟨rfl, st96⟩
 ·intro vals ρ w101 X hd h0 st100
  have e102 : ρ 2 = (pt b1 0) := (h0 2 rfl).trans rfl
  have e103 : ρ 23 = (.bool (decide (¬ (e.term = zTrm)))) := ((hd 4 rfl).2 23 rfl).trans (hd 4 rfl).1
  refine W2 (dj := 23) (e103.trans (bF h12)) (OpT.field 0 ⟨b1, 0, none⟩ ⟨b1, 0, none⟩ tf72_0 e102 rfl ?_)
  refine WL.nil ?_
  exact oneQ.mk ⟨rfl, st100⟩
 ·intro vals ρ w105 X hd h0 st104
  have e106 : ρ 23 = (.bool (decide (¬ (e.term = zTrm)))) := ((hd 4 rfl).2 23 rfl).trans (hd 4 rfl).1
  have e107 : ρ 27 = (pt b1 0) := ((hd 8 rfl).2 27 rfl).trans (hd 8 rfl).1
  refine W2 (dj := 23) (e106.trans (bF h12)) (OpT.loadS ⟨b1, 0, none⟩ (.int .i8 (e.op)) ta64 e107 (st104.cellB (i := 1) rfl rfl) ?_)
  refine WL.nil ?_
  exact oneQ.mk ⟨rfl, st104⟩
 ·intro vals ρ w109 X hd h0 st108
  have e110 : ρ 23 = (.bool (decide (¬ (e.term = zTrm)))) := ((hd 4 rfl).2 23 rfl).trans (hd 4 rfl).1
  have e111 : ρ 28 = (.int .i8 (e.op)) := ((hd 9 rfl).2 28 rfl).trans (hd 9 rfl).1
  refine W2 (dj := 23) (e110.trans (bF h12)) (OpT.callS cal136 [] [] [(.int .i8 (e.op))] rfl (ca1 e111) (arity_spec st108 e.op) ?_)
  rintro v112 w113 ⟨rfl, st114⟩
  refine WL.nil ?_
  exact oneQ.mk ⟨rfl, st114⟩
 ·intro vals ρ w116 X hd h0 st115
  have e117 : ρ 23 = (.bool (decide (¬ (e.term = zTrm)))) := ((hd 4 rfl).2 23 rfl).trans (hd 4 rfl).1
  have e118 : ρ 26 = (ni (e.kids.length)) := ((hd 7 rfl).2 26 rfl).trans (hd 7 rfl).1
  have e119 : ρ 29 = (.int .i64 (arityF e.op)) := ((hd 10 rfl).2 29 rfl).trans (hd 10 rfl).1
  refine W2 (dj := 23) (e117.trans (bF h12)) (OpT.ine .i64 (((e.kids.length : Nat) : Int)) (arityF e.op) e118 e119 ?_)
  refine WL.nil ?_
  exact oneQ.mk ⟨rfl, st115⟩
 ·intro vals ρ w121 X hd h0 st120
  have e122 : ρ 23 = (.bool (decide (¬ (e.term = zTrm)))) := ((hd 4 rfl).2 23 rfl).trans (hd 4 rfl).1
  have e123 : ρ 30 = (.bool (decide (((e.kids.length : Nat) : Int) ≠ (arityF e.op)))) := ((hd 11 rfl).2 30 rfl).trans (hd 11 rfl).1
  refine W1 (OpT.pickF (.bool (decide (((e.kids.length : Nat) : Int) ≠ (arityF e.op)))) (e122.trans (bF h12)) e123 ?_)
  refine WL.nil ?_
  exact oneQ.mk ⟨rfl, st120⟩
 intro vals ρ126 w125 hv h0 st124
 replace st124 : St Z w0 w125 (Blk b4 3 [(ni (n + 1))] :: Blk b1 72 [(.int .i8 (e.op)), (.string e.term.var), (.int .i8 (e.term.val.kind)), (.int .i64 (e.term.val.num)), (.string e.term.val.text), kv] :: L) := st124
 have e127 : ρ126 2 = (pt b1 0) := (h0 2 rfl).trans rfl
 have e128 : ρ126 3 = (pt b4 0) := (h0 3 rfl).trans rfl
 have e129 : ρ126 31 = (.bool (decide (((e.kids.length : Nat) : Int) ≠ (arityF e.op)))) := ((hv 12 rfl).2 31 rfl).trans (hv 12 rfl).1
 clear hv h0
 refine Wnt ?_
 refine WC.condP (((e.kids.length : Nat) : Int) ≠ (arityF e.op)) e129 (fun h130 => ?_) (fun h130 => ?_)
 ·refine WC.seq ?_
  refine WC.region ?_
  refine W1 (OpT.assign (.bool false) rfl ?_)
  refine Wnt ?_
  refine WC.ret <| thenQ_r <| retQ.one (.bool false) rfl ?_
  exact ⟨_, rfl, by simp only [deepB]; simp_all, (St.selT [Blk b4 3 [(ni (n + 1))], Blk b1 72 [(.int .i8 (e.op)), (.string e.term.var), (.int .i8 (e.term.val.kind)), (.int .i64 (e.term.val.num)), (.string e.term.val.text), kv]] [] rfl (by decide) st124)⟩
 refine WC.skip ?_
 refine thenQ_n ?_
 refine Wsr ?_
 refine W1 (OpT.field 5 ⟨b1, 0, none⟩ ⟨b1, 5, none⟩ tf72_2 e127 rfl ?_)
 refine W1 (OpT.loadS ⟨b1, 5, none⟩ kv ta70 rfl (st124.cellB (i := 1) rfl rfl) ?_)
 refine W1 (OpT.makeFunc [] [(pt b4 0)] mk0 (mk1 e128) ?_)
 refine W1 (OpT.callS cal137 [] [] [kv, (.func (.func 138) #[] #[(pt b4 0)])] rfl (ca2 rfl rfl) (ContainsFunc_Exp st124 hk 138 cal138 [(pt b4 0)] (fun k => !deepB n k) (fun w' cs x hx st' hR => by obtain ⟨kv', rfl, hk'⟩ := rExp_kids hR; exact deep1_spec n hn ih _ st' x kv' hk')) ?_)
 rintro v131 w132 ⟨rfl, st133⟩
 refine W1 (OpT.not (e.kids.any (fun k => !deepB n k)) rfl ?_)
 refine W1 (OpT.assign (.bool (!(e.kids.any (fun k => !deepB n k)))) rfl ?_)
 refine Wnt ?_
 refine WC.ret <| retQ.one (.bool (!(e.kids.any (fun k => !deepB n k)))) rfl ?_
 exact ⟨_, rfl, by simp only [deepB]; simp_all, (St.selT [Blk b4 3 [(ni (n + 1))], Blk b1 72 [(.int .i8 (e.op)), (.string e.term.var), (.int .i8 (e.term.val.kind)), (.int .i64 (e.term.val.num)), (.string e.term.val.text), kv]] [] rfl (by decide) st133)⟩

theorem deep_spec : ∀ (n : Nat), n < 1000 → ∀ {Z : Nat → Prop} {w0 w : World} {L : List Res} (_ : St Z w0 w L) (e : Exp) (kv : Value) (_ : rExp.sl Z w0 kv e.kids), Calls Tryz.prog 128 #[(.agg #[(.int .i8 (e.op)), (.string e.term.var), (.int .i8 (e.term.val.kind)), (.int .i64 (e.term.val.num)), (.string e.term.val.text), kv]), (.int .i64 ((n : Nat) : Int))] w (Ret fun r w' => r = .bool (deepB (n) e) ∧ St Z w0 w' L) := by
  intro n
  induction n with
  | zero => intro _ Z w0 w L st e kv hk; exact deep_zero st e kv hk
  | succ n ih => intro hn Z w0 w L st e kv hk; exact deep_succ n (by omega) (ih (by omega)) st e kv hk
theorem CheckExpr_spec {Z : Nat → Prop} {w0 w : World} {L : List Res} (st : St Z w0 w L) (e : Exp) (kv : Value) (hk : rExp.sl Z w0 kv e.kids) : Calls Tryz.prog 110 #[(.agg #[(.int .i8 (e.op)), (.string e.term.var), (.int .i8 (e.term.val.kind)), (.int .i64 (e.term.val.num)), (.string e.term.val.text), kv])] w (Ret fun r w' => r = .int .i64 (errn (deepB 8 e) 40) ∧ St Z w0 w' L) := by
 refine calls_of_WC (m := 6) (rs := [.tmp 2]) Tryz.func110 rfl rfl rfl rfl ?_
 refine Wsr ?_
 refine W1 (OpT.box st (.agg #[(.int .i8 (e.op)), (.string e.term.var), (.int .i8 (e.term.val.kind)), (.int .i64 (e.term.val.num)), (.string e.term.val.text), kv]) [(.int .i8 (e.op)), (.string e.term.var), (.int .i8 (e.term.val.kind)), (.int .i64 (e.term.val.num)), (.string e.term.val.text), kv] rfl rfl (fun b1 w2 st3 => ?_))
 refine W1 (OpT.assign (ii 0) rfl ?_)
 refine Wns ?_
 refine W1 (OpT.loadA ⟨b1, 0, none⟩ 6 [(.int .i8 (e.op)), (.string e.term.var), (.int .i8 (e.term.val.kind)), (.int .i64 (e.term.val.num)), (.string e.term.val.text), kv] ta72 ts72 rfl ((st3.rowB (i := 0) rfl).part 0 6) rfl ?_)
 refine W1 (OpT.callS cal128 [] [] [(.agg #[(.int .i8 (e.op)), (.string e.term.var), (.int .i8 (e.term.val.kind)), (.int .i64 (e.term.val.num)), (.string e.term.val.text), kv]), (ii 8)] rfl (ca2 rfl rfl) (deep_spec 8 (by omega) st3 e _ hk) ?_)
 rintro v4 w5 ⟨rfl, st6⟩
 refine W1 (OpT.callS cal89 [] [] [(.bool (deepB 8 e))] rfl (ca1 rfl) (code_spec st6 (deepB 8 e)) ?_)
 rintro v7 w8 ⟨rfl, st9⟩
 refine W1 (OpT.assign (.int .i64 (errn (deepB 8 e) 40)) rfl ?_)
 refine Wnt ?_
 refine WC.ret <| retQ.one (.int .i64 (errn (deepB 8 e) 40)) rfl ?_
 exact ⟨_, rfl, rfl, (St.selT [Blk b1 72 [(.int .i8 (e.op)), (.string e.term.var), (.int .i8 (e.term.val.kind)), (.int .i64 (e.term.val.num)), (.string e.term.val.text), kv]] [] rfl (by decide) st9)⟩

theorem CheckAtom1_spec {Z : Nat → Prop} {w0 w : World} {L : List Res} (st : St Z w0 w L) (t : Trm) : Calls Tryz.prog 127 #[(.agg #[(.string t.var), (.int .i8 (t.val.kind)), (.int .i64 (t.val.num)), (.string t.val.text)])] w (Ret fun r w' => r = .bool (!trmB t) ∧ St Z w0 w' L) := by
 refine calls_of_WC (m := 6) (rs := [.tmp 2]) Tryz.func127 rfl rfl rfl rfl ?_
 refine Wsr ?_
 refine W1 (OpT.box st (.agg #[(.string t.var), (.int .i8 (t.val.kind)), (.int .i64 (t.val.num)), (.string t.val.text)]) [(.string t.var), (.int .i8 (t.val.kind)), (.int .i64 (t.val.num)), (.string t.val.text)] rfl rfl (fun b1 w2 st3 => ?_))
 refine W1 (OpT.assign (.bool false) rfl ?_)
 refine Wns ?_
 refine W1 (OpT.loadA ⟨b1, 0, none⟩ 4 [(.string t.var), (.int .i8 (t.val.kind)), (.int .i64 (t.val.num)), (.string t.val.text)] ta69 ts69 rfl ((st3.rowB (i := 0) rfl).part 0 4) rfl ?_)
 refine W1 (OpT.callS cal125 [] [] [(.agg #[(.string t.var), (.int .i8 (t.val.kind)), (.int .i64 (t.val.num)), (.string t.val.text)])] rfl (ca1 rfl) (CheckTerm_spec st3 t) ?_)
 rintro v4 w5 ⟨rfl, st6⟩
 refine W1 (OpT.ine .i64 (errn (trmB t) 40) (0) rfl rfl ?_)
 refine W1 (OpT.assign (.bool (decide ((errn (trmB t) 40) ≠ 0))) rfl ?_)
 refine Wnt ?_
 refine WC.ret <| retQ.one (.bool (decide ((errn (trmB t) 40) ≠ 0))) rfl ?_
 exact ⟨_, rfl, by rw [show decide (errn (trmB t) 40 ≠ 0) = !trmB t from by cases trmB t <;> simp [errn]], (St.selT [Blk b1 69 [(.string t.var), (.int .i8 (t.val.kind)), (.int .i64 (t.val.num)), (.string t.val.text)]] [] rfl (by decide) st6)⟩

def atmB (a : Atm) : Bool := nameB a.pred && (decide ((a.args.length : Int) ≤ 24) && !a.args.any (fun t => !trmB t))
theorem CheckAtom_spec {Z : Nat → Prop} {w0 w : World} {L : List Res} (st : St Z w0 w L) (a : Atm) (av : Value) (ha : rTrm.sl Z w0 av a.args) : Calls Tryz.prog 109 #[(.agg #[(.string a.pred), av])] w (Ret fun r w' => r = .int .i64 (errn (atmB a) 40) ∧ St Z w0 w' L) := by
 refine calls_of_WC (m := 19) (rs := [.tmp 2]) Tryz.func109 rfl rfl rfl rfl ?_
 refine Wsr ?_
 refine W1 (OpT.box st (.agg #[(.string a.pred), av]) [(.string a.pred), av] rfl rfl (fun b1 w2 st3 => ?_))
 refine W1 (OpT.assign (ii 0) rfl ?_)
 refine Wns ?_
 refine W1 (OpT.field 0 ⟨b1, 0, none⟩ ⟨b1, 0, none⟩ tf62_0 rfl rfl ?_)
 refine W1 (OpT.loadS ⟨b1, 0, none⟩ (.string a.pred) ta9 rfl (st3.cellB (i := 0) rfl rfl) ?_)
 refine W1 (OpT.callS cal86 [] [] [(.string a.pred)] rfl (ca1 rfl) (name_spec st3 a.pred) ?_)
 rintro v4 w5 ⟨rfl, st6⟩
 refine W1 (OpT.move (.bool (nameB a.pred)) rfl ?_)
 by_cases h7 : (nameB a.pred) = true
 ·refine W2 (dj := 6) (congrArg Value.bool h7) (OpT.field 1 ⟨b1, 0, none⟩ ⟨b1, 1, none⟩ tf62_1 rfl rfl ?_)
  refine W2 (dj := 6) (congrArg Value.bool h7) (OpT.loadS ⟨b1, 1, none⟩ av ta60 rfl (st6.cellB (i := 0) rfl rfl) ?_)
  refine W2 (dj := 6) (congrArg Value.bool h7) (OpT.lenR rfl tu60 ha rfl ?_)
  refine W2 (dj := 6) (congrArg Value.bool h7) (OpT.ile .i64 (((a.args.length : Nat) : Int)) (24) rfl rfl ?_)
  refine W1 (OpT.pickT (.bool (decide (((a.args.length : Nat) : Int) ≤ 24))) (congrArg Value.bool h7) rfl ?_)
  refine W1 (OpT.move (.bool (decide (((a.args.length : Nat) : Int) ≤ 24))) rfl ?_)
  by_cases h8 : ((a.args.length : Nat) : Int) ≤ 24
  ·refine W2 (dj := 12) (bT h8) (OpT.field 1 ⟨b1, 0, none⟩ ⟨b1, 1, none⟩ tf62_1 rfl rfl ?_)
   refine W2 (dj := 12) (bT h8) (OpT.loadS ⟨b1, 1, none⟩ av ta60 rfl (st6.cellB (i := 0) rfl rfl) ?_)
   refine W2 (dj := 12) (bT h8) (OpT.callS cal126 [] [] [av, (.func (.func 127) #[] #[])] rfl (ca2 rfl rfl) (ContainsFunc_Trm st6 ha 127 cal127 [] (fun t => !trmB t) (fun w' cs x hx st' hR => by obtain rfl := hR; exact CheckAtom1_spec st' x)) ?_)
   rintro v9 w10 ⟨rfl, st11⟩
   refine W2 (dj := 12) (bT h8) (OpT.not (a.args.any (fun t => !trmB t)) rfl ?_)
   refine W1 (OpT.pickT (.bool (!(a.args.any (fun t => !trmB t)))) (bT h8) rfl ?_)
   refine W1 (OpT.callS cal89 [] [] [(.bool (!(a.args.any (fun t => !trmB t))))] rfl (ca1 rfl) (code_spec st11 (!(a.args.any (fun t => !trmB t)))) ?_)
   rintro v12 w13 ⟨rfl, st14⟩
   refine W1 (OpT.assign (.int .i64 (errn (!(a.args.any (fun t => !trmB t))) 40)) rfl ?_)
   refine Wnt ?_
   refine WC.ret <| retQ.one (.int .i64 (errn (!(a.args.any (fun t => !trmB t))) 40)) rfl ?_
   exact ⟨_, rfl, by simp [atmB, *], (St.selT [Blk b1 62 [(.string a.pred), av]] [] rfl (by decide) st14)⟩
  refine WL.pass (dj := 12) (c := false) rfl rfl rfl (bF h8) rfl ?_
  refine WL.pass (dj := 12) (c := false) rfl rfl rfl (bF h8) rfl ?_
  refine WL.pass (dj := 12) (c := false) rfl rfl rfl (bF h8) rfl ?_
  refine WL.pass (dj := 12) (c := false) rfl rfl rfl (bF h8) rfl ?_
  refine W1 (OpT.pickF (.bool false) (bF h8) rfl ?_)
  refine W1 (OpT.callS cal89 [] [] [(.bool false)] rfl (ca1 rfl) (code_spec st6 false) ?_)
  rintro v15 w16 ⟨rfl, st17⟩
  refine W1 (OpT.assign (.int .i64 (errn false 40)) rfl ?_)
  refine Wnt ?_
  refine WC.ret <| retQ.one (.int .i64 (errn false 40)) rfl ?_
  exact ⟨_, rfl, by simp [atmB, *], (St.selT [Blk b1 62 [(.string a.pred), av]] [] rfl (by decide) st17)⟩
 have h7 := Bool.eq_false_iff.2 h7
 refine WL.pass (dj := 6) (c := false) rfl rfl rfl (congrArg Value.bool h7) rfl ?_
 refine WL.pass (dj := 6) (c := false) rfl rfl rfl (congrArg Value.bool h7) rfl ?_
 refine WL.pass (dj := 6) (c := false) rfl rfl rfl (congrArg Value.bool h7) rfl ?_
 refine WL.pass (dj := 6) (c := false) rfl rfl rfl (congrArg Value.bool h7) rfl ?_
 refine W1 (OpT.pickF (.bool false) (congrArg Value.bool h7) rfl ?_)
 refine W1 (OpT.move (.bool false) rfl ?_)
 refine WL.pass (dj := 12) (c := false) rfl rfl rfl rfl rfl ?_
 refine WL.pass (dj := 12) (c := false) rfl rfl rfl rfl rfl ?_
 refine WL.pass (dj := 12) (c := false) rfl rfl rfl rfl rfl ?_
 refine WL.pass (dj := 12) (c := false) rfl rfl rfl rfl rfl ?_
 refine W1 (OpT.pickF (.bool false) rfl rfl ?_)
 refine W1 (OpT.callS cal89 [] [] [(.bool false)] rfl (ca1 rfl) (code_spec st6 false) ?_)
 rintro v18 w19 ⟨rfl, st20⟩
 refine W1 (OpT.assign (.int .i64 (errn false 40)) rfl ?_)
 refine Wnt ?_
 refine WC.ret <| retQ.one (.int .i64 (errn false 40)) rfl ?_
 exact ⟨_, rfl, by simp [atmB, *], (St.selT [Blk b1 62 [(.string a.pred), av]] [] rfl (by decide) st20)⟩

def agrB (a : Agr) : Bool := if a.agg = 0 then solidB a.term else if a.agg = 1 then decide (a.term = zTrm) else if a.agg = 2 ∨ a.agg = 3 ∨ a.agg = 4 then decide (a.term.var ≠ ⟨#[]⟩) && solidB a.term else false
def ltrlB (l : Ltr) : Bool := if l.kind = 1 ∨ l.kind = 2 then decide (l.rel = 0) && emptyB l.left && emptyB l.right && atmB l.atom
  else if l.kind = 3 then decide (l.atom.pred = ⟨#[]⟩) && decide (¬ 0 < (l.atom.args.length : Int)) && decide (¬ l.rel < 1) && decide (¬ 6 < l.rel) && deepB 8 l.left && deepB 8 l.right else false
theorem argument_spec {Z : Nat → Prop} {w0 w : World} {L : List Res} (st : St Z w0 w L) (a : Agr) : Calls Tryz.prog 87 #[(.agg #[(.int .i8 (a.agg)), (.string a.term.var), (.int .i8 (a.term.val.kind)), (.int .i64 (a.term.val.num)), (.string a.term.val.text)])] w (Ret fun r w' => r = .bool (agrB a) ∧ St Z w0 w' L) := by
 refine calls_of_WC (m := 28) (rs := [.tmp 2]) Tryz.func87 rfl rfl rfl rfl ?_
 refine Wsr ?_
 refine W1 (OpT.box st (.agg #[(.int .i8 (a.agg)), (.string a.term.var), (.int .i8 (a.term.val.kind)), (.int .i64 (a.term.val.num)), (.string a.term.val.text)]) [(.int .i8 (a.agg)), (.string a.term.var), (.int .i8 (a.term.val.kind)), (.int .i64 (a.term.val.num)), (.string a.term.val.text)] rfl rfl (fun b1 w2 st3 => ?_))
 refine W1 (OpT.assign (.bool false) rfl ?_)
 refine Wnt ?_
 refine WC.seq ?_
 refine Wsr ?_
 refine W1 (OpT.field 0 ⟨b1, 0, none⟩ ⟨b1, 0, none⟩ tf102_0 rfl rfl ?_)
 refine W1 (OpT.loadS ⟨b1, 0, none⟩ (.int .i8 (a.agg)) ta100 rfl (st3.cellB (i := 0) rfl rfl) ?_)
 refine Wnt ?_
 refine WC.block ?_
 refine Wsr ?_
 refine W1 (OpT.ieq .i8 (a.agg) (0) rfl rfl ?_)
 refine W1 (OpT.assign (.bool (decide (a.agg = 0))) rfl ?_)
 refine Wnt ?_
 refine WC.condP (a.agg = 0) rfl (fun h4 => ?_) (fun h4 => ?_)
 ·refine WC.seq ?_
  refine WC.region ?_
  refine W1 (OpT.field 1 ⟨b1, 0, none⟩ ⟨b1, 1, none⟩ tf102_1 rfl rfl ?_)
  refine W1 (OpT.loadA ⟨b1, 1, none⟩ 4 [(.string a.term.var), (.int .i8 (a.term.val.kind)), (.int .i64 (a.term.val.num)), (.string a.term.val.text)] ta69 ts69 rfl ((st3.rowB (i := 0) rfl).part 1 4) rfl ?_)
  refine W1 (OpT.callS cal106 [] [] [(.agg #[(.string a.term.var), (.int .i8 (a.term.val.kind)), (.int .i64 (a.term.val.num)), (.string a.term.val.text)])] rfl (ca1 rfl) (solid_spec st3 a.term) ?_)
  rintro v5 w6 ⟨rfl, st7⟩
  refine W1 (OpT.assign (.bool (solidB a.term)) rfl ?_)
  refine Wnt ?_
  refine WC.ret <| blkQ_r <| thenQ_r <| retQ.one (.bool (solidB a.term)) rfl ?_
  exact ⟨_, rfl, by simp [agrB, *], (St.selT [Blk b1 102 [(.int .i8 (a.agg)), (.string a.term.var), (.int .i8 (a.term.val.kind)), (.int .i64 (a.term.val.num)), (.string a.term.val.text)]] [] rfl (by decide) st7)⟩
 refine Wsr ?_
 refine W1 (OpT.ieq .i8 (a.agg) (1) rfl rfl ?_)
 refine W1 (OpT.assign (.bool (decide (a.agg = 1))) rfl ?_)
 refine Wnt ?_
 refine WC.condP (a.agg = 1) rfl (fun h8 => ?_) (fun h8 => ?_)
 ·refine WC.seq ?_
  refine WC.region ?_
  refine W1 (OpT.field 1 ⟨b1, 0, none⟩ ⟨b1, 1, none⟩ tf102_1 rfl rfl ?_)
  refine W1 (OpT.loadA ⟨b1, 1, none⟩ 4 [(.string a.term.var), (.int .i8 (a.term.val.kind)), (.int .i64 (a.term.val.num)), (.string a.term.val.text)] ta69 ts69 rfl ((st3.rowB (i := 0) rfl).part 1 4) rfl ?_)
  refine W1 (OpT.callS cal107 [] [] [(.agg #[(.string a.term.var), (.int .i8 (a.term.val.kind)), (.int .i64 (a.term.val.num)), (.string a.term.val.text)])] rfl (ca1 rfl) (none_spec st3 a.term) ?_)
  rintro v9 w10 ⟨rfl, st11⟩
  refine W1 (OpT.assign (.bool (decide (a.term = zTrm))) rfl ?_)
  refine Wnt ?_
  refine WC.ret <| blkQ_r <| thenQ_r <| retQ.one (.bool (decide (a.term = zTrm))) rfl ?_
  exact ⟨_, rfl, by simp [agrB, *], (St.selT [Blk b1 102 [(.int .i8 (a.agg)), (.string a.term.var), (.int .i8 (a.term.val.kind)), (.int .i64 (a.term.val.num)), (.string a.term.val.text)]] [] rfl (by decide) st11)⟩
 refine WC.seq ?_
 refine Wsr ?_
 refine W1 (OpT.ieq .i8 (a.agg) (2) rfl rfl ?_)
 refine W1 (OpT.assign (.bool (decide (a.agg = 2))) rfl ?_)
 refine Wnt ?_
 refine WC.condP (a.agg = 2) rfl (fun h12 => ?_) (fun h12 => ?_)
 ·refine WC.skip ?_
  refine thenQ_n ?_
  refine WC.condT (bT h12) ?_
  refine Wsr ?_
  refine W1 (OpT.field 1 ⟨b1, 0, none⟩ ⟨b1, 1, none⟩ tf102_1 rfl rfl ?_)
  refine W1 (OpT.field 0 ⟨b1, 1, none⟩ ⟨b1, 1, none⟩ tf69_0 rfl rfl ?_)
  refine W1 (OpT.loadS ⟨b1, 1, none⟩ (.string a.term.var) ta9 rfl (st3.cellB (i := 0) rfl rfl) ?_)
  refine W1 (OpT.sne (a.term.var) ((⟨#[]⟩ : ByteArray)) rfl rfl ?_)
  refine W1 (OpT.move (.bool (decide (a.term.var ≠ (⟨#[]⟩ : ByteArray)))) rfl ?_)
  by_cases h13 : a.term.var ≠ (⟨#[]⟩ : ByteArray)
  ·refine W2 (dj := 23) (bT h13) (OpT.field 1 ⟨b1, 0, none⟩ ⟨b1, 1, none⟩ tf102_1 rfl rfl ?_)
   refine W2 (dj := 23) (bT h13) (OpT.loadA ⟨b1, 1, none⟩ 4 [(.string a.term.var), (.int .i8 (a.term.val.kind)), (.int .i64 (a.term.val.num)), (.string a.term.val.text)] ta69 ts69 rfl ((st3.rowB (i := 0) rfl).part 1 4) rfl ?_)
   refine W2 (dj := 23) (bT h13) (OpT.callS cal106 [] [] [(.agg #[(.string a.term.var), (.int .i8 (a.term.val.kind)), (.int .i64 (a.term.val.num)), (.string a.term.val.text)])] rfl (ca1 rfl) (solid_spec st3 a.term) ?_)
   rintro v14 w15 ⟨rfl, st16⟩
   refine W1 (OpT.pickT (.bool (solidB a.term)) (bT h13) rfl ?_)
   refine W1 (OpT.assign (.bool (solidB a.term)) rfl ?_)
   refine Wnt ?_
   refine WC.ret <| blkQ_r <| thenQ_r <| retQ.one (.bool (solidB a.term)) rfl ?_
   exact ⟨_, rfl, by simp [agrB, *], (St.selT [Blk b1 102 [(.int .i8 (a.agg)), (.string a.term.var), (.int .i8 (a.term.val.kind)), (.int .i64 (a.term.val.num)), (.string a.term.val.text)]] [] rfl (by decide) st16)⟩
  refine WL.pass (dj := 23) (c := false) rfl rfl rfl (bF h13) rfl ?_
  refine WL.pass (dj := 23) (c := false) rfl rfl rfl (bF h13) rfl ?_
  refine WL.pass (dj := 23) (c := false) rfl rfl rfl (bF h13) rfl ?_
  refine W1 (OpT.pickF (.bool false) (bF h13) rfl ?_)
  refine W1 (OpT.assign (.bool false) rfl ?_)
  refine Wnt ?_
  refine WC.ret <| blkQ_r <| thenQ_r <| retQ.one (.bool false) rfl ?_
  exact ⟨_, rfl, by simp [agrB, *], (St.selT [Blk b1 102 [(.int .i8 (a.agg)), (.string a.term.var), (.int .i8 (a.term.val.kind)), (.int .i64 (a.term.val.num)), (.string a.term.val.text)]] [] rfl (by decide) st3)⟩
 refine Wsr ?_
 refine W1 (OpT.ieq .i8 (a.agg) (3) rfl rfl ?_)
 refine W1 (OpT.assign (.bool (decide (a.agg = 3))) rfl ?_)
 refine Wnt ?_
 refine WC.condP (a.agg = 3) rfl (fun h17 => ?_) (fun h17 => ?_)
 ·refine WC.skip ?_
  refine thenQ_n ?_
  refine WC.condT (bT h17) ?_
  refine Wsr ?_
  refine W1 (OpT.field 1 ⟨b1, 0, none⟩ ⟨b1, 1, none⟩ tf102_1 rfl rfl ?_)
  refine W1 (OpT.field 0 ⟨b1, 1, none⟩ ⟨b1, 1, none⟩ tf69_0 rfl rfl ?_)
  refine W1 (OpT.loadS ⟨b1, 1, none⟩ (.string a.term.var) ta9 rfl (st3.cellB (i := 0) rfl rfl) ?_)
  refine W1 (OpT.sne (a.term.var) ((⟨#[]⟩ : ByteArray)) rfl rfl ?_)
  refine W1 (OpT.move (.bool (decide (a.term.var ≠ (⟨#[]⟩ : ByteArray)))) rfl ?_)
  by_cases h18 : a.term.var ≠ (⟨#[]⟩ : ByteArray)
  ·refine W2 (dj := 23) (bT h18) (OpT.field 1 ⟨b1, 0, none⟩ ⟨b1, 1, none⟩ tf102_1 rfl rfl ?_)
   refine W2 (dj := 23) (bT h18) (OpT.loadA ⟨b1, 1, none⟩ 4 [(.string a.term.var), (.int .i8 (a.term.val.kind)), (.int .i64 (a.term.val.num)), (.string a.term.val.text)] ta69 ts69 rfl ((st3.rowB (i := 0) rfl).part 1 4) rfl ?_)
   refine W2 (dj := 23) (bT h18) (OpT.callS cal106 [] [] [(.agg #[(.string a.term.var), (.int .i8 (a.term.val.kind)), (.int .i64 (a.term.val.num)), (.string a.term.val.text)])] rfl (ca1 rfl) (solid_spec st3 a.term) ?_)
   rintro v19 w20 ⟨rfl, st21⟩
   refine W1 (OpT.pickT (.bool (solidB a.term)) (bT h18) rfl ?_)
   refine W1 (OpT.assign (.bool (solidB a.term)) rfl ?_)
   refine Wnt ?_
   refine WC.ret <| blkQ_r <| thenQ_r <| retQ.one (.bool (solidB a.term)) rfl ?_
   exact ⟨_, rfl, by simp [agrB, *], (St.selT [Blk b1 102 [(.int .i8 (a.agg)), (.string a.term.var), (.int .i8 (a.term.val.kind)), (.int .i64 (a.term.val.num)), (.string a.term.val.text)]] [] rfl (by decide) st21)⟩
  refine WL.pass (dj := 23) (c := false) rfl rfl rfl (bF h18) rfl ?_
  refine WL.pass (dj := 23) (c := false) rfl rfl rfl (bF h18) rfl ?_
  refine WL.pass (dj := 23) (c := false) rfl rfl rfl (bF h18) rfl ?_
  refine W1 (OpT.pickF (.bool false) (bF h18) rfl ?_)
  refine W1 (OpT.assign (.bool false) rfl ?_)
  refine Wnt ?_
  refine WC.ret <| blkQ_r <| thenQ_r <| retQ.one (.bool false) rfl ?_
  exact ⟨_, rfl, by simp [agrB, *], (St.selT [Blk b1 102 [(.int .i8 (a.agg)), (.string a.term.var), (.int .i8 (a.term.val.kind)), (.int .i64 (a.term.val.num)), (.string a.term.val.text)]] [] rfl (by decide) st3)⟩
 refine WC.region ?_
 refine W1 (OpT.ieq .i8 (a.agg) (4) rfl rfl ?_)
 refine W1 (OpT.assign (.bool (decide (a.agg = 4))) rfl ?_)
 refine Wnt ?_
 refine WC.condP (a.agg = 4) rfl (fun h22 => ?_) (fun h22 => ?_)
 ·refine WC.seq ?_
  refine WC.region ?_
  refine W1 (OpT.field 1 ⟨b1, 0, none⟩ ⟨b1, 1, none⟩ tf102_1 rfl rfl ?_)
  refine W1 (OpT.field 0 ⟨b1, 1, none⟩ ⟨b1, 1, none⟩ tf69_0 rfl rfl ?_)
  refine W1 (OpT.loadS ⟨b1, 1, none⟩ (.string a.term.var) ta9 rfl (st3.cellB (i := 0) rfl rfl) ?_)
  refine W1 (OpT.sne (a.term.var) ((⟨#[]⟩ : ByteArray)) rfl rfl ?_)
  refine W1 (OpT.move (.bool (decide (a.term.var ≠ (⟨#[]⟩ : ByteArray)))) rfl ?_)
  by_cases h23 : a.term.var ≠ (⟨#[]⟩ : ByteArray)
  ·refine W2 (dj := 23) (bT h23) (OpT.field 1 ⟨b1, 0, none⟩ ⟨b1, 1, none⟩ tf102_1 rfl rfl ?_)
   refine W2 (dj := 23) (bT h23) (OpT.loadA ⟨b1, 1, none⟩ 4 [(.string a.term.var), (.int .i8 (a.term.val.kind)), (.int .i64 (a.term.val.num)), (.string a.term.val.text)] ta69 ts69 rfl ((st3.rowB (i := 0) rfl).part 1 4) rfl ?_)
   refine W2 (dj := 23) (bT h23) (OpT.callS cal106 [] [] [(.agg #[(.string a.term.var), (.int .i8 (a.term.val.kind)), (.int .i64 (a.term.val.num)), (.string a.term.val.text)])] rfl (ca1 rfl) (solid_spec st3 a.term) ?_)
   rintro v24 w25 ⟨rfl, st26⟩
   refine W1 (OpT.pickT (.bool (solidB a.term)) (bT h23) rfl ?_)
   refine W1 (OpT.assign (.bool (solidB a.term)) rfl ?_)
   refine Wnt ?_
   refine WC.ret <| blkQ_r <| thenQ_r <| retQ.one (.bool (solidB a.term)) rfl ?_
   exact ⟨_, rfl, by simp [agrB, *], (St.selT [Blk b1 102 [(.int .i8 (a.agg)), (.string a.term.var), (.int .i8 (a.term.val.kind)), (.int .i64 (a.term.val.num)), (.string a.term.val.text)]] [] rfl (by decide) st26)⟩
  refine WL.pass (dj := 23) (c := false) rfl rfl rfl (bF h23) rfl ?_
  refine WL.pass (dj := 23) (c := false) rfl rfl rfl (bF h23) rfl ?_
  refine WL.pass (dj := 23) (c := false) rfl rfl rfl (bF h23) rfl ?_
  refine W1 (OpT.pickF (.bool false) (bF h23) rfl ?_)
  refine W1 (OpT.assign (.bool false) rfl ?_)
  refine Wnt ?_
  refine WC.ret <| blkQ_r <| thenQ_r <| retQ.one (.bool false) rfl ?_
  exact ⟨_, rfl, by simp [agrB, *], (St.selT [Blk b1 102 [(.int .i8 (a.agg)), (.string a.term.var), (.int .i8 (a.term.val.kind)), (.int .i64 (a.term.val.num)), (.string a.term.val.text)]] [] rfl (by decide) st3)⟩
 refine WC.skip ?_
 refine blkQ_n ?_
 refine thenQ_n ?_
 refine Wsr ?_
 refine W1 (OpT.assign (.bool false) rfl ?_)
 refine Wnt ?_
 refine WC.ret <| retQ.one (.bool false) rfl ?_
 exact ⟨_, rfl, by simp [agrB, *], (St.selT [Blk b1 102 [(.int .i8 (a.agg)), (.string a.term.var), (.int .i8 (a.term.val.kind)), (.int .i64 (a.term.val.num)), (.string a.term.val.text)]] [] rfl (by decide) st3)⟩

theorem errn_ne (b : Bool) (h : errn b 40 ≠ 0) : b = false := by cases b <;> simp [errn] at h ⊢
theorem errn_eq (b : Bool) (h : ¬ errn b 40 ≠ 0) : b = true := by cases b <;> simp [errn] at h ⊢
theorem CheckLiteral_spec {Z : Nat → Prop} {w0 w : World} {L : List Res} (st : St Z w0 w L) (l : Ltr) (av lk rk : Value) (ha : rTrm.sl Z w0 av l.atom.args) (hl : rExp.sl Z w0 lk l.left.kids) (hr : rExp.sl Z w0 rk l.right.kids) : Calls Tryz.prog 88 #[(.agg #[(.int .i8 (l.kind)), (.string l.atom.pred), av, (.int .i8 (l.rel)), (.int .i8 (l.left.op)), (.string l.left.term.var), (.int .i8 (l.left.term.val.kind)), (.int .i64 (l.left.term.val.num)), (.string l.left.term.val.text), lk, (.int .i8 (l.right.op)), (.string l.right.term.var), (.int .i8 (l.right.term.val.kind)), (.int .i64 (l.right.term.val.num)), (.string l.right.term.val.text), rk])] w (Ret fun r w' => r = .int .i64 (errn (ltrlB l) 40) ∧ St Z w0 w' L) := by
 refine calls_of_WC (m := 58) (rs := [.tmp 2]) Tryz.func88 rfl rfl rfl rfl ?_
 refine Wsr ?_
 refine W1 (OpT.box st (.agg #[(.int .i8 (l.kind)), (.string l.atom.pred), av, (.int .i8 (l.rel)), (.int .i8 (l.left.op)), (.string l.left.term.var), (.int .i8 (l.left.term.val.kind)), (.int .i64 (l.left.term.val.num)), (.string l.left.term.val.text), lk, (.int .i8 (l.right.op)), (.string l.right.term.var), (.int .i8 (l.right.term.val.kind)), (.int .i64 (l.right.term.val.num)), (.string l.right.term.val.text), rk]) [(.int .i8 (l.kind)), (.string l.atom.pred), av, (.int .i8 (l.rel)), (.int .i8 (l.left.op)), (.string l.left.term.var), (.int .i8 (l.left.term.val.kind)), (.int .i64 (l.left.term.val.num)), (.string l.left.term.val.text), lk, (.int .i8 (l.right.op)), (.string l.right.term.var), (.int .i8 (l.right.term.val.kind)), (.int .i64 (l.right.term.val.num)), (.string l.right.term.val.text), rk] rfl rfl (fun b1 w2 st3 => ?_))
 refine W1 (OpT.assign (ii 0) rfl ?_)
 refine Wnt ?_
 refine WC.seq ?_
 refine Wsr ?_
 refine W1 (OpT.field 0 ⟨b1, 0, none⟩ ⟨b1, 0, none⟩ tf74_0 rfl rfl ?_)
 refine W1 (OpT.loadS ⟨b1, 0, none⟩ (.int .i8 (l.kind)) ta59 rfl (st3.cellB (i := 0) rfl rfl) ?_)
 refine Wnt ?_
 refine WC.block ?_
 refine WC.seq ?_
 refine Wsr ?_
 refine W1 (OpT.ieq .i8 (l.kind) (1) rfl rfl ?_)
 refine W1 (OpT.assign (.bool (decide (l.kind = 1))) rfl ?_)
 refine Wnt ?_
 refine WC.condP (l.kind = 1) rfl (fun h4 => ?_) (fun h4 => ?_)
 ·refine WC.skip ?_
  refine thenQ_n ?_
  refine WC.condT (bT h4) ?_
  refine WC.seq ?_
  refine Wsr ?_
  refine W1 (OpT.field 3 ⟨b1, 0, none⟩ ⟨b1, 3, none⟩ tf74_2 rfl rfl ?_)
  refine W1 (OpT.loadS ⟨b1, 3, none⟩ (.int .i8 (l.rel)) ta63 rfl (st3.cellB (i := 0) rfl rfl) ?_)
  refine W1 (OpT.ine .i8 (l.rel) (0) rfl rfl ?_)
  refine W1 (OpT.move (.bool (decide (l.rel ≠ 0))) rfl ?_)
  by_cases h5 : l.rel ≠ 0
  ·refine WL.pass (dj := 11) (c := true) rfl rfl rfl (bT h5) rfl ?_
   refine WL.pass (dj := 11) (c := true) rfl rfl rfl (bT h5) rfl ?_
   refine WL.pass (dj := 11) (c := true) rfl rfl rfl (bT h5) rfl ?_
   refine WL.pass (dj := 11) (c := true) rfl rfl rfl (bT h5) rfl ?_
   refine W1 (OpT.pickT (.bool true) (bT h5) rfl ?_)
   refine W1 (OpT.move (.bool true) rfl ?_)
   refine WL.pass (dj := 17) (c := true) rfl rfl rfl rfl rfl ?_
   refine WL.pass (dj := 17) (c := true) rfl rfl rfl rfl rfl ?_
   refine WL.pass (dj := 17) (c := true) rfl rfl rfl rfl rfl ?_
   refine WL.pass (dj := 17) (c := true) rfl rfl rfl rfl rfl ?_
   refine W1 (OpT.pickT (.bool true) rfl rfl ?_)
   refine Wnt ?_
   refine WC.condT rfl ?_
   refine Wsr ?_
   refine W1 (OpT.assign (ii 40) rfl ?_)
   refine Wnt ?_
   refine WC.ret <| thenQ_r <| blkQ_r <| thenQ_r <| retQ.one (ii 40) rfl ?_
   exact ⟨_, rfl, by simp_all [ltrlB, errn], (St.selT [Blk b1 74 [(.int .i8 (l.kind)), (.string l.atom.pred), av, (.int .i8 (l.rel)), (.int .i8 (l.left.op)), (.string l.left.term.var), (.int .i8 (l.left.term.val.kind)), (.int .i64 (l.left.term.val.num)), (.string l.left.term.val.text), lk, (.int .i8 (l.right.op)), (.string l.right.term.var), (.int .i8 (l.right.term.val.kind)), (.int .i64 (l.right.term.val.num)), (.string l.right.term.val.text), rk]] [] rfl (by decide) st3)⟩
  refine W2 (dj := 11) (bF h5) (OpT.field 4 ⟨b1, 0, none⟩ ⟨b1, 4, none⟩ tf74_3 rfl rfl ?_)
  refine W2 (dj := 11) (bF h5) (OpT.loadA ⟨b1, 4, none⟩ 6 [(.int .i8 (l.left.op)), (.string l.left.term.var), (.int .i8 (l.left.term.val.kind)), (.int .i64 (l.left.term.val.num)), (.string l.left.term.val.text), lk] ta72 ts72 rfl ((st3.rowB (i := 0) rfl).part 4 6) rfl ?_)
  refine W2 (dj := 11) (bF h5) (OpT.callS cal108 [] [] [(.agg #[(.int .i8 (l.left.op)), (.string l.left.term.var), (.int .i8 (l.left.term.val.kind)), (.int .i64 (l.left.term.val.num)), (.string l.left.term.val.text), lk])] rfl (ca1 rfl) (empty_spec st3 l.left _ hl) ?_)
  rintro v6 w7 ⟨rfl, st8⟩
  refine W2 (dj := 11) (bF h5) (OpT.not (emptyB l.left) rfl ?_)
  refine W1 (OpT.pickF (.bool (!(emptyB l.left))) (bF h5) rfl ?_)
  refine W1 (OpT.move (.bool (!(emptyB l.left))) rfl ?_)
  by_cases h9 : (!(emptyB l.left)) = true
  ·refine WL.pass (dj := 17) (c := true) rfl rfl rfl (congrArg Value.bool h9) rfl ?_
   refine WL.pass (dj := 17) (c := true) rfl rfl rfl (congrArg Value.bool h9) rfl ?_
   refine WL.pass (dj := 17) (c := true) rfl rfl rfl (congrArg Value.bool h9) rfl ?_
   refine WL.pass (dj := 17) (c := true) rfl rfl rfl (congrArg Value.bool h9) rfl ?_
   refine W1 (OpT.pickT (.bool true) (congrArg Value.bool h9) rfl ?_)
   refine Wnt ?_
   refine WC.condT rfl ?_
   refine Wsr ?_
   refine W1 (OpT.assign (ii 40) rfl ?_)
   refine Wnt ?_
   refine WC.ret <| thenQ_r <| blkQ_r <| thenQ_r <| retQ.one (ii 40) rfl ?_
   exact ⟨_, rfl, by simp_all [ltrlB, errn], (St.selT [Blk b1 74 [(.int .i8 (l.kind)), (.string l.atom.pred), av, (.int .i8 (l.rel)), (.int .i8 (l.left.op)), (.string l.left.term.var), (.int .i8 (l.left.term.val.kind)), (.int .i64 (l.left.term.val.num)), (.string l.left.term.val.text), lk, (.int .i8 (l.right.op)), (.string l.right.term.var), (.int .i8 (l.right.term.val.kind)), (.int .i64 (l.right.term.val.num)), (.string l.right.term.val.text), rk]] [] rfl (by decide) st8)⟩
  have h9 := Bool.eq_false_iff.2 h9
  refine W2 (dj := 17) (congrArg Value.bool h9) (OpT.field 10 ⟨b1, 0, none⟩ ⟨b1, 10, none⟩ tf74_4 rfl rfl ?_)
  refine W2 (dj := 17) (congrArg Value.bool h9) (OpT.loadA ⟨b1, 10, none⟩ 6 [(.int .i8 (l.right.op)), (.string l.right.term.var), (.int .i8 (l.right.term.val.kind)), (.int .i64 (l.right.term.val.num)), (.string l.right.term.val.text), rk] ta72 ts72 rfl ((st8.rowB (i := 0) rfl).part 10 6) rfl ?_)
  refine W2 (dj := 17) (congrArg Value.bool h9) (OpT.callS cal108 [] [] [(.agg #[(.int .i8 (l.right.op)), (.string l.right.term.var), (.int .i8 (l.right.term.val.kind)), (.int .i64 (l.right.term.val.num)), (.string l.right.term.val.text), rk])] rfl (ca1 rfl) (empty_spec st8 l.right _ hr) ?_)
  rintro v10 w11 ⟨rfl, st12⟩
  refine W2 (dj := 17) (congrArg Value.bool h9) (OpT.not (emptyB l.right) rfl ?_)
  refine W1 (OpT.pickF (.bool (!(emptyB l.right))) (congrArg Value.bool h9) rfl ?_)
  refine Wnt ?_
  refine WC.cond ((!(emptyB l.right))) rfl (fun h13 => ?_) (fun h13 => ?_)
  ·refine WC.seq ?_
   refine WC.region ?_
   refine W1 (OpT.assign (ii 40) rfl ?_)
   refine Wnt ?_
   refine WC.ret <| thenQ_r <| blkQ_r <| thenQ_r <| retQ.one (ii 40) rfl ?_
   exact ⟨_, rfl, by simp_all [ltrlB, errn], (St.selT [Blk b1 74 [(.int .i8 (l.kind)), (.string l.atom.pred), av, (.int .i8 (l.rel)), (.int .i8 (l.left.op)), (.string l.left.term.var), (.int .i8 (l.left.term.val.kind)), (.int .i64 (l.left.term.val.num)), (.string l.left.term.val.text), lk, (.int .i8 (l.right.op)), (.string l.right.term.var), (.int .i8 (l.right.term.val.kind)), (.int .i64 (l.right.term.val.num)), (.string l.right.term.val.text), rk]] [] rfl (by decide) st12)⟩
  refine WC.skip ?_
  refine thenQ_n ?_
  refine Wsr ?_
  refine W1 (OpT.field 1 ⟨b1, 0, none⟩ ⟨b1, 1, none⟩ tf74_1 rfl rfl ?_)
  refine W1 (OpT.loadA ⟨b1, 1, none⟩ 2 [(.string l.atom.pred), av] ta62 ts62 rfl ((st12.rowB (i := 0) rfl).part 1 2) rfl ?_)
  refine W1 (OpT.callS cal109 [] [] [(.agg #[(.string l.atom.pred), av])] rfl (ca1 rfl) (CheckAtom_spec st12 l.atom _ ha) ?_)
  rintro v14 w15 ⟨rfl, st16⟩
  refine W1 (OpT.assign (.int .i64 (errn (atmB l.atom) 40)) rfl ?_)
  refine Wnt ?_
  refine WC.ret <| blkQ_r <| thenQ_r <| retQ.one (.int .i64 (errn (atmB l.atom) 40)) rfl ?_
  exact ⟨_, rfl, by simp_all [ltrlB, errn], (St.selT [Blk b1 74 [(.int .i8 (l.kind)), (.string l.atom.pred), av, (.int .i8 (l.rel)), (.int .i8 (l.left.op)), (.string l.left.term.var), (.int .i8 (l.left.term.val.kind)), (.int .i64 (l.left.term.val.num)), (.string l.left.term.val.text), lk, (.int .i8 (l.right.op)), (.string l.right.term.var), (.int .i8 (l.right.term.val.kind)), (.int .i64 (l.right.term.val.num)), (.string l.right.term.val.text), rk]] [] rfl (by decide) st16)⟩
 refine WC.region ?_
 refine W1 (OpT.ieq .i8 (l.kind) (2) rfl rfl ?_)
 refine W1 (OpT.assign (.bool (decide (l.kind = 2))) rfl ?_)
 refine Wnt ?_
 refine WC.condP (l.kind = 2) rfl (fun h17 => ?_) (fun h17 => ?_)
 ·refine WC.seq ?_
  refine Wsr ?_
  refine W1 (OpT.field 3 ⟨b1, 0, none⟩ ⟨b1, 3, none⟩ tf74_2 rfl rfl ?_)
  refine W1 (OpT.loadS ⟨b1, 3, none⟩ (.int .i8 (l.rel)) ta63 rfl (st3.cellB (i := 0) rfl rfl) ?_)
  refine W1 (OpT.ine .i8 (l.rel) (0) rfl rfl ?_)
  refine W1 (OpT.move (.bool (decide (l.rel ≠ 0))) rfl ?_)
  by_cases h18 : l.rel ≠ 0
  ·refine WL.pass (dj := 11) (c := true) rfl rfl rfl (bT h18) rfl ?_
   refine WL.pass (dj := 11) (c := true) rfl rfl rfl (bT h18) rfl ?_
   refine WL.pass (dj := 11) (c := true) rfl rfl rfl (bT h18) rfl ?_
   refine WL.pass (dj := 11) (c := true) rfl rfl rfl (bT h18) rfl ?_
   refine W1 (OpT.pickT (.bool true) (bT h18) rfl ?_)
   refine W1 (OpT.move (.bool true) rfl ?_)
   refine WL.pass (dj := 17) (c := true) rfl rfl rfl rfl rfl ?_
   refine WL.pass (dj := 17) (c := true) rfl rfl rfl rfl rfl ?_
   refine WL.pass (dj := 17) (c := true) rfl rfl rfl rfl rfl ?_
   refine WL.pass (dj := 17) (c := true) rfl rfl rfl rfl rfl ?_
   refine W1 (OpT.pickT (.bool true) rfl rfl ?_)
   refine Wnt ?_
   refine WC.condT rfl ?_
   refine Wsr ?_
   refine W1 (OpT.assign (ii 40) rfl ?_)
   refine Wnt ?_
   refine WC.ret <| thenQ_r <| blkQ_r <| thenQ_r <| retQ.one (ii 40) rfl ?_
   exact ⟨_, rfl, by simp_all [ltrlB, errn], (St.selT [Blk b1 74 [(.int .i8 (l.kind)), (.string l.atom.pred), av, (.int .i8 (l.rel)), (.int .i8 (l.left.op)), (.string l.left.term.var), (.int .i8 (l.left.term.val.kind)), (.int .i64 (l.left.term.val.num)), (.string l.left.term.val.text), lk, (.int .i8 (l.right.op)), (.string l.right.term.var), (.int .i8 (l.right.term.val.kind)), (.int .i64 (l.right.term.val.num)), (.string l.right.term.val.text), rk]] [] rfl (by decide) st3)⟩
  refine W2 (dj := 11) (bF h18) (OpT.field 4 ⟨b1, 0, none⟩ ⟨b1, 4, none⟩ tf74_3 rfl rfl ?_)
  refine W2 (dj := 11) (bF h18) (OpT.loadA ⟨b1, 4, none⟩ 6 [(.int .i8 (l.left.op)), (.string l.left.term.var), (.int .i8 (l.left.term.val.kind)), (.int .i64 (l.left.term.val.num)), (.string l.left.term.val.text), lk] ta72 ts72 rfl ((st3.rowB (i := 0) rfl).part 4 6) rfl ?_)
  refine W2 (dj := 11) (bF h18) (OpT.callS cal108 [] [] [(.agg #[(.int .i8 (l.left.op)), (.string l.left.term.var), (.int .i8 (l.left.term.val.kind)), (.int .i64 (l.left.term.val.num)), (.string l.left.term.val.text), lk])] rfl (ca1 rfl) (empty_spec st3 l.left _ hl) ?_)
  rintro v19 w20 ⟨rfl, st21⟩
  refine W2 (dj := 11) (bF h18) (OpT.not (emptyB l.left) rfl ?_)
  refine W1 (OpT.pickF (.bool (!(emptyB l.left))) (bF h18) rfl ?_)
  refine W1 (OpT.move (.bool (!(emptyB l.left))) rfl ?_)
  by_cases h22 : (!(emptyB l.left)) = true
  ·refine WL.pass (dj := 17) (c := true) rfl rfl rfl (congrArg Value.bool h22) rfl ?_
   refine WL.pass (dj := 17) (c := true) rfl rfl rfl (congrArg Value.bool h22) rfl ?_
   refine WL.pass (dj := 17) (c := true) rfl rfl rfl (congrArg Value.bool h22) rfl ?_
   refine WL.pass (dj := 17) (c := true) rfl rfl rfl (congrArg Value.bool h22) rfl ?_
   refine W1 (OpT.pickT (.bool true) (congrArg Value.bool h22) rfl ?_)
   refine Wnt ?_
   refine WC.condT rfl ?_
   refine Wsr ?_
   refine W1 (OpT.assign (ii 40) rfl ?_)
   refine Wnt ?_
   refine WC.ret <| thenQ_r <| blkQ_r <| thenQ_r <| retQ.one (ii 40) rfl ?_
   exact ⟨_, rfl, by simp_all [ltrlB, errn], (St.selT [Blk b1 74 [(.int .i8 (l.kind)), (.string l.atom.pred), av, (.int .i8 (l.rel)), (.int .i8 (l.left.op)), (.string l.left.term.var), (.int .i8 (l.left.term.val.kind)), (.int .i64 (l.left.term.val.num)), (.string l.left.term.val.text), lk, (.int .i8 (l.right.op)), (.string l.right.term.var), (.int .i8 (l.right.term.val.kind)), (.int .i64 (l.right.term.val.num)), (.string l.right.term.val.text), rk]] [] rfl (by decide) st21)⟩
  have h22 := Bool.eq_false_iff.2 h22
  refine W2 (dj := 17) (congrArg Value.bool h22) (OpT.field 10 ⟨b1, 0, none⟩ ⟨b1, 10, none⟩ tf74_4 rfl rfl ?_)
  refine W2 (dj := 17) (congrArg Value.bool h22) (OpT.loadA ⟨b1, 10, none⟩ 6 [(.int .i8 (l.right.op)), (.string l.right.term.var), (.int .i8 (l.right.term.val.kind)), (.int .i64 (l.right.term.val.num)), (.string l.right.term.val.text), rk] ta72 ts72 rfl ((st21.rowB (i := 0) rfl).part 10 6) rfl ?_)
  refine W2 (dj := 17) (congrArg Value.bool h22) (OpT.callS cal108 [] [] [(.agg #[(.int .i8 (l.right.op)), (.string l.right.term.var), (.int .i8 (l.right.term.val.kind)), (.int .i64 (l.right.term.val.num)), (.string l.right.term.val.text), rk])] rfl (ca1 rfl) (empty_spec st21 l.right _ hr) ?_)
  rintro v23 w24 ⟨rfl, st25⟩
  refine W2 (dj := 17) (congrArg Value.bool h22) (OpT.not (emptyB l.right) rfl ?_)
  refine W1 (OpT.pickF (.bool (!(emptyB l.right))) (congrArg Value.bool h22) rfl ?_)
  refine Wnt ?_
  refine WC.cond ((!(emptyB l.right))) rfl (fun h26 => ?_) (fun h26 => ?_)
  ·refine WC.seq ?_
   refine WC.region ?_
   refine W1 (OpT.assign (ii 40) rfl ?_)
   refine Wnt ?_
   refine WC.ret <| thenQ_r <| blkQ_r <| thenQ_r <| retQ.one (ii 40) rfl ?_
   exact ⟨_, rfl, by simp_all [ltrlB, errn], (St.selT [Blk b1 74 [(.int .i8 (l.kind)), (.string l.atom.pred), av, (.int .i8 (l.rel)), (.int .i8 (l.left.op)), (.string l.left.term.var), (.int .i8 (l.left.term.val.kind)), (.int .i64 (l.left.term.val.num)), (.string l.left.term.val.text), lk, (.int .i8 (l.right.op)), (.string l.right.term.var), (.int .i8 (l.right.term.val.kind)), (.int .i64 (l.right.term.val.num)), (.string l.right.term.val.text), rk]] [] rfl (by decide) st25)⟩
  refine WC.skip ?_
  refine thenQ_n ?_
  refine Wsr ?_
  refine W1 (OpT.field 1 ⟨b1, 0, none⟩ ⟨b1, 1, none⟩ tf74_1 rfl rfl ?_)
  refine W1 (OpT.loadA ⟨b1, 1, none⟩ 2 [(.string l.atom.pred), av] ta62 ts62 rfl ((st25.rowB (i := 0) rfl).part 1 2) rfl ?_)
  refine W1 (OpT.callS cal109 [] [] [(.agg #[(.string l.atom.pred), av])] rfl (ca1 rfl) (CheckAtom_spec st25 l.atom _ ha) ?_)
  rintro v27 w28 ⟨rfl, st29⟩
  refine W1 (OpT.assign (.int .i64 (errn (atmB l.atom) 40)) rfl ?_)
  refine Wnt ?_
  refine WC.ret <| blkQ_r <| thenQ_r <| retQ.one (.int .i64 (errn (atmB l.atom) 40)) rfl ?_
  exact ⟨_, rfl, by simp_all [ltrlB, errn], (St.selT [Blk b1 74 [(.int .i8 (l.kind)), (.string l.atom.pred), av, (.int .i8 (l.rel)), (.int .i8 (l.left.op)), (.string l.left.term.var), (.int .i8 (l.left.term.val.kind)), (.int .i64 (l.left.term.val.num)), (.string l.left.term.val.text), lk, (.int .i8 (l.right.op)), (.string l.right.term.var), (.int .i8 (l.right.term.val.kind)), (.int .i64 (l.right.term.val.num)), (.string l.right.term.val.text), rk]] [] rfl (by decide) st29)⟩
 refine Wsr ?_
 refine W1 (OpT.ieq .i8 (l.kind) (3) rfl rfl ?_)
 refine W1 (OpT.assign (.bool (decide (l.kind = 3))) rfl ?_)
 refine Wnt ?_
 refine WC.condP (l.kind = 3) rfl (fun h30 => ?_) (fun h30 => ?_)
 ·refine WC.seq ?_
  refine Wsr ?_
  refine W1 (OpT.field 1 ⟨b1, 0, none⟩ ⟨b1, 1, none⟩ tf74_1 rfl rfl ?_)
  refine W1 (OpT.field 0 ⟨b1, 1, none⟩ ⟨b1, 1, none⟩ tf62_0 rfl rfl ?_)
  refine W1 (OpT.loadS ⟨b1, 1, none⟩ (.string l.atom.pred) ta9 rfl (st3.cellB (i := 0) rfl rfl) ?_)
  refine W1 (OpT.sne (l.atom.pred) ((⟨#[]⟩ : ByteArray)) rfl rfl ?_)
  refine W1 (OpT.move (.bool (decide (l.atom.pred ≠ (⟨#[]⟩ : ByteArray)))) rfl ?_)
  by_cases h31 : l.atom.pred ≠ (⟨#[]⟩ : ByteArray)
  ·refine WL.pass (dj := 32) (c := true) rfl rfl rfl (bT h31) rfl ?_
   refine WL.pass (dj := 32) (c := true) rfl rfl rfl (bT h31) rfl ?_
   refine WL.pass (dj := 32) (c := true) rfl rfl rfl (bT h31) rfl ?_
   refine WL.pass (dj := 32) (c := true) rfl rfl rfl (bT h31) rfl ?_
   refine WL.pass (dj := 32) (c := true) rfl rfl rfl (bT h31) rfl ?_
   refine W1 (OpT.pickT (.bool true) (bT h31) rfl ?_)
   refine W1 (OpT.move (.bool true) rfl ?_)
   refine WL.pass (dj := 39) (c := true) rfl rfl rfl rfl rfl ?_
   refine WL.pass (dj := 39) (c := true) rfl rfl rfl rfl rfl ?_
   refine WL.pass (dj := 39) (c := true) rfl rfl rfl rfl rfl ?_
   refine W1 (OpT.pickT (.bool true) rfl rfl ?_)
   refine W1 (OpT.move (.bool true) rfl ?_)
   refine WL.pass (dj := 44) (c := true) rfl rfl rfl rfl rfl ?_
   refine WL.pass (dj := 44) (c := true) rfl rfl rfl rfl rfl ?_
   refine WL.pass (dj := 44) (c := true) rfl rfl rfl rfl rfl ?_
   refine W1 (OpT.pickT (.bool true) rfl rfl ?_)
   refine W1 (OpT.move (.bool true) rfl ?_)
   refine WL.pass (dj := 49) (c := true) rfl rfl rfl rfl rfl ?_
   refine WL.pass (dj := 49) (c := true) rfl rfl rfl rfl rfl ?_
   refine WL.pass (dj := 49) (c := true) rfl rfl rfl rfl rfl ?_
   refine WL.pass (dj := 49) (c := true) rfl rfl rfl rfl rfl ?_
   refine W1 (OpT.pickT (.bool true) rfl rfl ?_)
   refine Wnt ?_
   refine WC.condT rfl ?_
   refine Wsr ?_
   refine W1 (OpT.assign (ii 40) rfl ?_)
   refine Wnt ?_
   refine WC.ret <| thenQ_r <| blkQ_r <| thenQ_r <| retQ.one (ii 40) rfl ?_
   exact ⟨_, rfl, by simp_all [ltrlB, errn], (St.selT [Blk b1 74 [(.int .i8 (l.kind)), (.string l.atom.pred), av, (.int .i8 (l.rel)), (.int .i8 (l.left.op)), (.string l.left.term.var), (.int .i8 (l.left.term.val.kind)), (.int .i64 (l.left.term.val.num)), (.string l.left.term.val.text), lk, (.int .i8 (l.right.op)), (.string l.right.term.var), (.int .i8 (l.right.term.val.kind)), (.int .i64 (l.right.term.val.num)), (.string l.right.term.val.text), rk]] [] rfl (by decide) st3)⟩
  refine W2 (dj := 32) (bF h31) (OpT.field 1 ⟨b1, 0, none⟩ ⟨b1, 1, none⟩ tf74_1 rfl rfl ?_)
  refine W2 (dj := 32) (bF h31) (OpT.field 1 ⟨b1, 1, none⟩ ⟨b1, 2, none⟩ tf62_1 rfl rfl ?_)
  refine W2 (dj := 32) (bF h31) (OpT.loadS ⟨b1, 2, none⟩ av ta60 rfl (st3.cellB (i := 0) rfl rfl) ?_)
  refine W2 (dj := 32) (bF h31) (OpT.lenR rfl tu60 ha rfl ?_)
  refine W2 (dj := 32) (bF h31) (OpT.igt .i64 (((l.atom.args.length : Nat) : Int)) (0) rfl rfl ?_)
  refine W1 (OpT.pickF (.bool (decide (0 < ((l.atom.args.length : Nat) : Int)))) (bF h31) rfl ?_)
  refine W1 (OpT.move (.bool (decide (0 < ((l.atom.args.length : Nat) : Int)))) rfl ?_)
  by_cases h32 : 0 < ((l.atom.args.length : Nat) : Int)
  ·refine WL.pass (dj := 39) (c := true) rfl rfl rfl (bT h32) rfl ?_
   refine WL.pass (dj := 39) (c := true) rfl rfl rfl (bT h32) rfl ?_
   refine WL.pass (dj := 39) (c := true) rfl rfl rfl (bT h32) rfl ?_
   refine W1 (OpT.pickT (.bool true) (bT h32) rfl ?_)
   refine W1 (OpT.move (.bool true) rfl ?_)
   refine WL.pass (dj := 44) (c := true) rfl rfl rfl rfl rfl ?_
   refine WL.pass (dj := 44) (c := true) rfl rfl rfl rfl rfl ?_
   refine WL.pass (dj := 44) (c := true) rfl rfl rfl rfl rfl ?_
   refine W1 (OpT.pickT (.bool true) rfl rfl ?_)
   refine W1 (OpT.move (.bool true) rfl ?_)
   refine WL.pass (dj := 49) (c := true) rfl rfl rfl rfl rfl ?_
   refine WL.pass (dj := 49) (c := true) rfl rfl rfl rfl rfl ?_
   refine WL.pass (dj := 49) (c := true) rfl rfl rfl rfl rfl ?_
   refine WL.pass (dj := 49) (c := true) rfl rfl rfl rfl rfl ?_
   refine W1 (OpT.pickT (.bool true) rfl rfl ?_)
   refine Wnt ?_
   refine WC.condT rfl ?_
   refine Wsr ?_
   refine W1 (OpT.assign (ii 40) rfl ?_)
   refine Wnt ?_
   refine WC.ret <| thenQ_r <| blkQ_r <| thenQ_r <| retQ.one (ii 40) rfl ?_
   exact ⟨_, rfl, by simp_all [ltrlB, errn], (St.selT [Blk b1 74 [(.int .i8 (l.kind)), (.string l.atom.pred), av, (.int .i8 (l.rel)), (.int .i8 (l.left.op)), (.string l.left.term.var), (.int .i8 (l.left.term.val.kind)), (.int .i64 (l.left.term.val.num)), (.string l.left.term.val.text), lk, (.int .i8 (l.right.op)), (.string l.right.term.var), (.int .i8 (l.right.term.val.kind)), (.int .i64 (l.right.term.val.num)), (.string l.right.term.val.text), rk]] [] rfl (by decide) st3)⟩
  refine W2 (dj := 39) (bF h32) (OpT.field 3 ⟨b1, 0, none⟩ ⟨b1, 3, none⟩ tf74_2 rfl rfl ?_)
  refine W2 (dj := 39) (bF h32) (OpT.loadS ⟨b1, 3, none⟩ (.int .i8 (l.rel)) ta63 rfl (st3.cellB (i := 0) rfl rfl) ?_)
  refine W2 (dj := 39) (bF h32) (OpT.ilt .i8 (l.rel) (1) rfl rfl ?_)
  refine W1 (OpT.pickF (.bool (decide (l.rel < 1))) (bF h32) rfl ?_)
  refine W1 (OpT.move (.bool (decide (l.rel < 1))) rfl ?_)
  by_cases h33 : l.rel < 1
  ·refine WL.pass (dj := 44) (c := true) rfl rfl rfl (bT h33) rfl ?_
   refine WL.pass (dj := 44) (c := true) rfl rfl rfl (bT h33) rfl ?_
   refine WL.pass (dj := 44) (c := true) rfl rfl rfl (bT h33) rfl ?_
   refine W1 (OpT.pickT (.bool true) (bT h33) rfl ?_)
   refine W1 (OpT.move (.bool true) rfl ?_)
   refine WL.pass (dj := 49) (c := true) rfl rfl rfl rfl rfl ?_
   refine WL.pass (dj := 49) (c := true) rfl rfl rfl rfl rfl ?_
   refine WL.pass (dj := 49) (c := true) rfl rfl rfl rfl rfl ?_
   refine WL.pass (dj := 49) (c := true) rfl rfl rfl rfl rfl ?_
   refine W1 (OpT.pickT (.bool true) rfl rfl ?_)
   refine Wnt ?_
   refine WC.condT rfl ?_
   refine Wsr ?_
   refine W1 (OpT.assign (ii 40) rfl ?_)
   refine Wnt ?_
   refine WC.ret <| thenQ_r <| blkQ_r <| thenQ_r <| retQ.one (ii 40) rfl ?_
   exact ⟨_, rfl, by simp_all [ltrlB, errn], (St.selT [Blk b1 74 [(.int .i8 (l.kind)), (.string l.atom.pred), av, (.int .i8 (l.rel)), (.int .i8 (l.left.op)), (.string l.left.term.var), (.int .i8 (l.left.term.val.kind)), (.int .i64 (l.left.term.val.num)), (.string l.left.term.val.text), lk, (.int .i8 (l.right.op)), (.string l.right.term.var), (.int .i8 (l.right.term.val.kind)), (.int .i64 (l.right.term.val.num)), (.string l.right.term.val.text), rk]] [] rfl (by decide) st3)⟩
  refine W2 (dj := 44) (bF h33) (OpT.field 3 ⟨b1, 0, none⟩ ⟨b1, 3, none⟩ tf74_2 rfl rfl ?_)
  refine W2 (dj := 44) (bF h33) (OpT.loadS ⟨b1, 3, none⟩ (.int .i8 (l.rel)) ta63 rfl (st3.cellB (i := 0) rfl rfl) ?_)
  refine W2 (dj := 44) (bF h33) (OpT.igt .i8 (l.rel) (6) rfl rfl ?_)
  refine W1 (OpT.pickF (.bool (decide (6 < l.rel))) (bF h33) rfl ?_)
  refine W1 (OpT.move (.bool (decide (6 < l.rel))) rfl ?_)
  by_cases h34 : 6 < l.rel
  ·refine WL.pass (dj := 49) (c := true) rfl rfl rfl (bT h34) rfl ?_
   refine WL.pass (dj := 49) (c := true) rfl rfl rfl (bT h34) rfl ?_
   refine WL.pass (dj := 49) (c := true) rfl rfl rfl (bT h34) rfl ?_
   refine WL.pass (dj := 49) (c := true) rfl rfl rfl (bT h34) rfl ?_
   refine W1 (OpT.pickT (.bool true) (bT h34) rfl ?_)
   refine Wnt ?_
   refine WC.condT rfl ?_
   refine Wsr ?_
   refine W1 (OpT.assign (ii 40) rfl ?_)
   refine Wnt ?_
   refine WC.ret <| thenQ_r <| blkQ_r <| thenQ_r <| retQ.one (ii 40) rfl ?_
   exact ⟨_, rfl, by simp_all [ltrlB, errn], (St.selT [Blk b1 74 [(.int .i8 (l.kind)), (.string l.atom.pred), av, (.int .i8 (l.rel)), (.int .i8 (l.left.op)), (.string l.left.term.var), (.int .i8 (l.left.term.val.kind)), (.int .i64 (l.left.term.val.num)), (.string l.left.term.val.text), lk, (.int .i8 (l.right.op)), (.string l.right.term.var), (.int .i8 (l.right.term.val.kind)), (.int .i64 (l.right.term.val.num)), (.string l.right.term.val.text), rk]] [] rfl (by decide) st3)⟩
  refine W2 (dj := 49) (bF h34) (OpT.field 4 ⟨b1, 0, none⟩ ⟨b1, 4, none⟩ tf74_3 rfl rfl ?_)
  refine W2 (dj := 49) (bF h34) (OpT.loadA ⟨b1, 4, none⟩ 6 [(.int .i8 (l.left.op)), (.string l.left.term.var), (.int .i8 (l.left.term.val.kind)), (.int .i64 (l.left.term.val.num)), (.string l.left.term.val.text), lk] ta72 ts72 rfl ((st3.rowB (i := 0) rfl).part 4 6) rfl ?_)
  refine W2 (dj := 49) (bF h34) (OpT.callS cal110 [] [] [(.agg #[(.int .i8 (l.left.op)), (.string l.left.term.var), (.int .i8 (l.left.term.val.kind)), (.int .i64 (l.left.term.val.num)), (.string l.left.term.val.text), lk])] rfl (ca1 rfl) (CheckExpr_spec st3 l.left _ hl) ?_)
  rintro v35 w36 ⟨rfl, st37⟩
  refine W2 (dj := 49) (bF h34) (OpT.ine .i64 (errn (deepB 8 l.left) 40) (0) rfl rfl ?_)
  refine W1 (OpT.pickF (.bool (decide ((errn (deepB 8 l.left) 40) ≠ 0))) (bF h34) rfl ?_)
  refine Wnt ?_
  refine WC.condP ((errn (deepB 8 l.left) 40) ≠ 0) rfl (fun h38 => ?_) (fun h38 => ?_)
  ·have h38b := errn_ne _ h38
   refine Wsr ?_
   refine W1 (OpT.assign (ii 40) rfl ?_)
   refine Wnt ?_
   refine WC.ret <| thenQ_r <| blkQ_r <| thenQ_r <| retQ.one (ii 40) rfl ?_
   exact ⟨_, rfl, by simp_all [ltrlB, errn], (St.selT [Blk b1 74 [(.int .i8 (l.kind)), (.string l.atom.pred), av, (.int .i8 (l.rel)), (.int .i8 (l.left.op)), (.string l.left.term.var), (.int .i8 (l.left.term.val.kind)), (.int .i64 (l.left.term.val.num)), (.string l.left.term.val.text), lk, (.int .i8 (l.right.op)), (.string l.right.term.var), (.int .i8 (l.right.term.val.kind)), (.int .i64 (l.right.term.val.num)), (.string l.right.term.val.text), rk]] [] rfl (by decide) st37)⟩
  have h38b := errn_eq _ h38
  refine WC.skip ?_
  refine thenQ_n ?_
  refine Wsr ?_
  refine W1 (OpT.field 10 ⟨b1, 0, none⟩ ⟨b1, 10, none⟩ tf74_4 rfl rfl ?_)
  refine W1 (OpT.loadA ⟨b1, 10, none⟩ 6 [(.int .i8 (l.right.op)), (.string l.right.term.var), (.int .i8 (l.right.term.val.kind)), (.int .i64 (l.right.term.val.num)), (.string l.right.term.val.text), rk] ta72 ts72 rfl ((st37.rowB (i := 0) rfl).part 10 6) rfl ?_)
  refine W1 (OpT.callS cal110 [] [] [(.agg #[(.int .i8 (l.right.op)), (.string l.right.term.var), (.int .i8 (l.right.term.val.kind)), (.int .i64 (l.right.term.val.num)), (.string l.right.term.val.text), rk])] rfl (ca1 rfl) (CheckExpr_spec st37 l.right _ hr) ?_)
  rintro v39 w40 ⟨rfl, st41⟩
  refine W1 (OpT.assign (.int .i64 (errn (deepB 8 l.right) 40)) rfl ?_)
  refine Wnt ?_
  refine WC.ret <| blkQ_r <| thenQ_r <| retQ.one (.int .i64 (errn (deepB 8 l.right) 40)) rfl ?_
  exact ⟨_, rfl, by simp_all [ltrlB, errn], (St.selT [Blk b1 74 [(.int .i8 (l.kind)), (.string l.atom.pred), av, (.int .i8 (l.rel)), (.int .i8 (l.left.op)), (.string l.left.term.var), (.int .i8 (l.left.term.val.kind)), (.int .i64 (l.left.term.val.num)), (.string l.left.term.val.text), lk, (.int .i8 (l.right.op)), (.string l.right.term.var), (.int .i8 (l.right.term.val.kind)), (.int .i64 (l.right.term.val.num)), (.string l.right.term.val.text), rk]] [] rfl (by decide) st41)⟩
 refine WC.skip ?_
 refine blkQ_n ?_
 refine thenQ_n ?_
 refine Wsr ?_
 refine W1 (OpT.assign (ii 40) rfl ?_)
 refine Wnt ?_
 refine WC.ret <| retQ.one (ii 40) rfl ?_
 exact ⟨_, rfl, by simp_all [ltrlB, errn], (St.selT [Blk b1 74 [(.int .i8 (l.kind)), (.string l.atom.pred), av, (.int .i8 (l.rel)), (.int .i8 (l.left.op)), (.string l.left.term.var), (.int .i8 (l.left.term.val.kind)), (.int .i64 (l.left.term.val.num)), (.string l.left.term.val.text), lk, (.int .i8 (l.right.op)), (.string l.right.term.var), (.int .i8 (l.right.term.val.kind)), (.int .i64 (l.right.term.val.num)), (.string l.right.term.val.text), rk]] [] rfl (by decide) st3)⟩

end Go.Ped
set_option linter.unusedVariables false
set_option maxRecDepth 20000
namespace Go.Ped
open Go Go.Eng Go.RowKit Go.Proofs

theorem ta79 : aggB Tryz.prog 79 = some false := by kernel_rfl
theorem ko9 : KeyOk Tryz.prog 9 Value.string := keyOk_string tu9
theorem tu79 : Tryz.prog.underlying 79 = some (.map 9 3) := by kernel_rfl
theorem tz3 : zeroB Tryz.prog 3 = some (.int .i64 (0)) := by kernel_rfl
theorem ta37 : aggB Tryz.prog 37 = some false := by kernel_rfl
theorem tu37 : Tryz.prog.underlying 37 = some (.slice 9) := by kernel_rfl
theorem ts9 : sizeB Tryz.prog 9 = some 1 := by kernel_rfl
theorem tz9 : zeroB Tryz.prog 9 = some (.string (⟨#[]⟩ : ByteArray)) := by kernel_rfl
theorem tb9 : (Tryz.prog.info? 9).map (·.bytes) = some 16 := by kernel_rfl
theorem ts37 : sizeB Tryz.prog 37 = some 1 := by kernel_rfl
instance memBA (v : ByteArray) (l : List ByteArray) : Decidable (v ∈ l) := decidable_of_iff (l.any (fun y => decide (y = v)) = true) (by simp)
def addVar (l : List ByteArray) (v : ByteArray) : List ByteArray := if v = ⟨#[]⟩ ∨ v = ⟨#[95]⟩ ∨ v ∈ l then l else l ++ [v]
def fm (l : List ByteArray) : List (ByteArray × Int) := l.zipIdx.map (fun p => (p.1, ((p.2 + 1 : Nat) : Int)))
theorem fm_find (k : ByteArray) : ∀ (l : List ByteArray) (i : Nat), ((l.zipIdx i).map (fun p => (p.1, ((p.2 + 1 : Nat) : Int)))).find? (fun p => decide (p.1 = k)) = (l.findIdx? (fun x => decide (x = k))).map (fun j => (k, ((i + j + 1 : Nat) : Int)))
  | [], i => rfl
  | x :: l, i => by
    simp only [List.zipIdx_cons, List.map_cons, List.find?_cons, List.findIdx?_cons]
    by_cases h : x = k
    · simp [h]
    · simp only [h, decide_false, Bool.false_eq_true, if_false]
      rw [fm_find k l (i + 1)]
      cases l.findIdx? (fun x => decide (x = k)) <;> simp
      omega
theorem fm_pos (l : List ByteArray) (k : ByteArray) : 0 < (mget (fm l) k).getD 0 ↔ k ∈ l := by
  unfold mget fm
  rw [fm_find]
  cases h : l.findIdx? (fun x => decide (x = k)) with
  | none =>
    have := List.findIdx?_eq_none_iff.1 h
    simp
    intro hk
    simpa using this k hk
  | some j =>
    obtain ⟨hj, hp, _⟩ := List.findIdx?_eq_some_iff_getElem.1 h
    simp at hp
    simp
    exact hp ▸ List.getElem_mem hj
theorem fm_idx (k : ByteArray) : ∀ (l : List ByteArray) (i : Nat), k ∉ l → ((l.zipIdx i).map (fun p => (p.1, ((p.2 + 1 : Nat) : Int)))).findIdx? (fun p => decide (p.1 = k)) = none := by
  intro l i h
  rw [List.findIdx?_eq_none_iff]
  intro p hp
  obtain ⟨q, hq, rfl⟩ := List.mem_map.1 hp
  have := List.fst_mem_of_mem_zipIdx hq
  simp
  rintro rfl
  exact h this
theorem fm_set (l : List ByteArray) (k : ByteArray) (h : k ∉ l) : mset (fm l) k ((l.length + 1 : Nat) : Int) = fm (l ++ [k]) := by
  unfold mset
  have e := fm_idx k l 0 h
  have e' : (fm l).findIdx? (fun p => decide (p.1 = k)) = none := e
  rw [e']
  simp [fm, List.zipIdx_append]
abbrev VS (lb tb mb : Nat) (lv : Value) (l : List ByteArray) (L : List Res) : List Res := Blk lb 37 [lv] :: Blk tb 79 [(.map (some mb))] :: Row 9 1 lv l.length (l.map Value.string) :: Mp Value.string (Value.int .i64) mb (fm l) :: L
theorem vars1_spec {Z : Nat → Prop} {w0 w : World} {L : List Res} {lb tb mb : Nat} {lv : Value} {l : List ByteArray} (st : St Z w0 w (VS lb tb mb lv l L)) (hl : l.length < 1073741824) (x : Trm) (ad : Addr) (hr : RowZ Z w0 ad [(.string x.var), (.int .i8 x.val.kind), (.int .i64 x.val.num), (.string x.val.text)]) : Calls Tryz.prog 91 #[(.pointer (some ad)), (pt tb 0), (pt lb 0)] w (Ret fun r w' => r = .tuple #[] ∧ ∃ lv', St Z w0 w' (VS lb tb mb lv' (addVar l x.var) L)) := by
 have olv := st.rowOne (i := 2) rfl
 have clv := st.rowCel (i := 2) rfl
 refine calls_of_WC (m := 39) (rs := []) Tryz.func91 rfl rfl rfl rfl ?_
 refine WC.seq ?_
 refine WC.seq ?_
 by_cases h1 : x.var = (⟨#[]⟩ : ByteArray)
 ·refine WC.draw 21 (fun jj vv => match jj with | 0 => vv = (.pointer (some ad)) | 1 => vv = (.pointer (some ad)) | 2 => vv = (.pointer (some ad)) | 3 => vv = (.string x.var) | 4 => vv = (.bool (decide (x.var = (⟨#[]⟩ : ByteArray)))) | 5 => vv = (.bool (decide (x.var = (⟨#[]⟩ : ByteArray)))) | 6 => vv = undef | 7 => vv = undef | 8 => vv = undef | 9 => vv = undef | 10 => vv = undef | 11 => vv = (.bool true) | 12 => vv = (.bool true) | 13 => vv = undef | 14 => vv = undef | 15 => vv = undef | 16 => vv = undef | 17 => vv = undef | 18 => vv = undef | 19 => vv = undef | 20 => vv = (.bool true) | _ => True) (fun _ _ => []) st fmix (by kernel_rfl) ((obS (obS (obS (obS (obS (obS (obS (obS (obS (obS (obS (obS (obS (obS (obS (obS (obS (obS (obS (obS (obS ob0 ?_) ?_) ?_) ?_) ?_) ?_) ?_) ?_) ?_) ?_) ?_) ?_) ?_) ?_) ?_) ?_) ?_) ?_) ?_) ?_) ?_)) ?_
  ·intro vals ρ w3 X hd h0 st2
   have e4 : ρ 0 = (.pointer (some ad)) := (h0 0 rfl).trans rfl
   refine W1 (OpT.move (.pointer (some ad)) e4 ?_)
   refine WL.nil ?_
   exact oneQ.mk ⟨rfl, st2⟩
  ·intro vals ρ w6 X hd h0 st5
   have e7 : ρ 4 = (.pointer (some ad)) := ((hd 0 rfl).2 4 rfl).trans (hd 0 rfl).1
   refine W1 (OpT.nilc ad e7 ?_)
   refine WL.nil ?_
   exact oneQ.mk ⟨rfl, st5⟩
  ·intro vals ρ w9 X hd h0 st8
   have e10 : ρ 5 = (.pointer (some ad)) := ((hd 1 rfl).2 5 rfl).trans (hd 1 rfl).1
   refine W1 (OpT.field 0 ad ad tf69_0 e10 rfl ?_)
   refine WL.nil ?_
   exact oneQ.mk ⟨rfl, st8⟩
  ·intro vals ρ w12 X hd h0 st11
   have e13 : ρ 6 = (.pointer (some ad)) := ((hd 2 rfl).2 6 rfl).trans (hd 2 rfl).1
   refine W1 (OpT.loadS ad (.string x.var) ta9 e13 (hr.cell st11 (j := 0) rfl) ?_)
   refine WL.nil ?_
   exact oneQ.mk ⟨rfl, st11⟩
  ·intro vals ρ w15 X hd h0 st14
   have e16 : ρ 7 = (.string x.var) := ((hd 3 rfl).2 7 rfl).trans (hd 3 rfl).1
   refine W1 (OpT.seq (x.var) ((⟨#[]⟩ : ByteArray)) e16 rfl ?_)
   refine WL.nil ?_
   exact oneQ.mk ⟨rfl, st14⟩
  ·intro vals ρ w18 X hd h0 st17
   have e19 : ρ 8 = (.bool (decide (x.var = (⟨#[]⟩ : ByteArray)))) := ((hd 4 rfl).2 8 rfl).trans (hd 4 rfl).1
   refine W1 (OpT.move (.bool (decide (x.var = (⟨#[]⟩ : ByteArray)))) e19 ?_)
   refine WL.nil ?_
   exact oneQ.mk ⟨rfl, st17⟩
  ·intro vals ρ w21 X hd h0 st20
   have e22 : ρ 0 = (.pointer (some ad)) := (h0 0 rfl).trans rfl
   have e23 : ρ 9 = (.bool (decide (x.var = (⟨#[]⟩ : ByteArray)))) := ((hd 5 rfl).2 9 rfl).trans (hd 5 rfl).1
   refine WL.pass (dj := 9) (c := true) rfl rfl rfl (e23.trans (bT h1)) rfl ?_
   refine WL.nil ?_
   exact oneQ.mk ⟨rfl, st20⟩
  ·intro vals ρ w25 X hd h0 st24
   have e26 : ρ 9 = (.bool (decide (x.var = (⟨#[]⟩ : ByteArray)))) := ((hd 5 rfl).2 9 rfl).trans (hd 5 rfl).1
   have e27 : ρ 10 = undef := ((hd 6 rfl).2 10 rfl).trans (hd 6 rfl).1
   refine WL.pass (dj := 9) (c := true) rfl rfl rfl (e26.trans (bT h1)) rfl ?_
   refine WL.nil ?_
   exact oneQ.mk ⟨rfl, st24⟩
  ·intro vals ρ w29 X hd h0 st28
   have e30 : ρ 9 = (.bool (decide (x.var = (⟨#[]⟩ : ByteArray)))) := ((hd 5 rfl).2 9 rfl).trans (hd 5 rfl).1
   have e31 : ρ 11 = undef := ((hd 7 rfl).2 11 rfl).trans (hd 7 rfl).1
   refine WL.pass (dj := 9) (c := true) rfl rfl rfl (e30.trans (bT h1)) rfl ?_
   refine WL.nil ?_
   exact oneQ.mk ⟨rfl, st28⟩
  ·intro vals ρ w33 X hd h0 st32
   have e34 : ρ 9 = (.bool (decide (x.var = (⟨#[]⟩ : ByteArray)))) := ((hd 5 rfl).2 9 rfl).trans (hd 5 rfl).1
   have e35 : ρ 12 = undef := ((hd 8 rfl).2 12 rfl).trans (hd 8 rfl).1
   refine WL.pass (dj := 9) (c := true) rfl rfl rfl (e34.trans (bT h1)) rfl ?_
   refine WL.nil ?_
   exact oneQ.mk ⟨rfl, st32⟩
  ·intro vals ρ w37 X hd h0 st36
   have e38 : ρ 9 = (.bool (decide (x.var = (⟨#[]⟩ : ByteArray)))) := ((hd 5 rfl).2 9 rfl).trans (hd 5 rfl).1
   have e39 : ρ 13 = undef := ((hd 9 rfl).2 13 rfl).trans (hd 9 rfl).1
   refine WL.pass (dj := 9) (c := true) rfl rfl rfl (e38.trans (bT h1)) rfl ?_
   refine WL.nil ?_
   exact oneQ.mk ⟨rfl, st36⟩
  ·intro vals ρ w41 X hd h0 st40
   have e42 : ρ 9 = (.bool (decide (x.var = (⟨#[]⟩ : ByteArray)))) := ((hd 5 rfl).2 9 rfl).trans (hd 5 rfl).1
   have e43 : ρ 14 = undef := ((hd 10 rfl).2 14 rfl).trans (hd 10 rfl).1
   refine W1 (OpT.pickT (.bool true) (e42.trans (bT h1)) rfl ?_)
   refine WL.nil ?_
   exact oneQ.mk ⟨rfl, st40⟩
  ·intro vals ρ w45 X hd h0 st44
   have e46 : ρ 15 = (.bool true) := ((hd 11 rfl).2 15 rfl).trans (hd 11 rfl).1
   refine W1 (OpT.move (.bool true) e46 ?_)
   refine WL.nil ?_
   exact oneQ.mk ⟨rfl, st44⟩
  ·intro vals ρ w48 X hd h0 st47
   have e49 : ρ 1 = (pt tb 0) := (h0 1 rfl).trans rfl
   have e50 : ρ 16 = (.bool true) := ((hd 12 rfl).2 16 rfl).trans (hd 12 rfl).1
   refine WL.pass (dj := 16) (c := true) rfl rfl rfl e50 rfl ?_
   refine WL.nil ?_
   exact oneQ.mk ⟨rfl, st47⟩
  ·intro vals ρ w52 X hd h0 st51
   have e53 : ρ 0 = (.pointer (some ad)) := (h0 0 rfl).trans rfl
   have e54 : ρ 16 = (.bool true) := ((hd 12 rfl).2 16 rfl).trans (hd 12 rfl).1
   refine WL.pass (dj := 16) (c := true) rfl rfl rfl e54 rfl ?_
   refine WL.nil ?_
   exact oneQ.mk ⟨rfl, st51⟩
  ·intro vals ρ w56 X hd h0 st55
   have e57 : ρ 16 = (.bool true) := ((hd 12 rfl).2 16 rfl).trans (hd 12 rfl).1
   have e58 : ρ 18 = undef := ((hd 14 rfl).2 18 rfl).trans (hd 14 rfl).1
   refine WL.pass (dj := 16) (c := true) rfl rfl rfl e57 rfl ?_
   refine WL.nil ?_
   exact oneQ.mk ⟨rfl, st55⟩
  ·intro vals ρ w60 X hd h0 st59
   have e61 : ρ 16 = (.bool true) := ((hd 12 rfl).2 16 rfl).trans (hd 12 rfl).1
   have e62 : ρ 19 = undef := ((hd 15 rfl).2 19 rfl).trans (hd 15 rfl).1
   refine WL.pass (dj := 16) (c := true) rfl rfl rfl e61 rfl ?_
   refine WL.nil ?_
   exact oneQ.mk ⟨rfl, st59⟩
  ·intro vals ρ w64 X hd h0 st63
   have e65 : ρ 16 = (.bool true) := ((hd 12 rfl).2 16 rfl).trans (hd 12 rfl).1
   have e66 : ρ 20 = undef := ((hd 16 rfl).2 20 rfl).trans (hd 16 rfl).1
   refine WL.pass (dj := 16) (c := true) rfl rfl rfl e65 rfl ?_
   refine WL.nil ?_
   exact oneQ.mk ⟨rfl, st63⟩
  ·intro vals ρ w68 X hd h0 st67
   have e69 : ρ 16 = (.bool true) := ((hd 12 rfl).2 16 rfl).trans (hd 12 rfl).1
   have e70 : ρ 17 = undef := ((hd 13 rfl).2 17 rfl).trans (hd 13 rfl).1
   have e71 : ρ 21 = undef := ((hd 17 rfl).2 21 rfl).trans (hd 17 rfl).1
   refine WL.pass (dj := 16) (c := true) rfl rfl rfl e69 rfl ?_
   refine WL.nil ?_
   exact oneQ.mk ⟨rfl, st67⟩
  ·intro vals ρ w73 X hd h0 st72
   have e74 : ρ 16 = (.bool true) := ((hd 12 rfl).2 16 rfl).trans (hd 12 rfl).1
   have e75 : ρ 22 = undef := ((hd 18 rfl).2 22 rfl).trans (hd 18 rfl).1
   refine WL.pass (dj := 16) (c := true) rfl rfl rfl e74 rfl ?_
   refine WL.nil ?_
   exact oneQ.mk ⟨rfl, st72⟩
  ·intro vals ρ w77 X hd h0 st76
   have e78 : ρ 16 = (.bool true) := ((hd 12 rfl).2 16 rfl).trans (hd 12 rfl).1
   have e79 : ρ 23 = undef := ((hd 19 rfl).2 23 rfl).trans (hd 19 rfl).1
   refine W1 (OpT.pickT (.bool true) e78 rfl ?_)
   refine WL.nil ?_
   exact oneQ.mk ⟨rfl, st76⟩
  intro vals ρ82 w81 hv h0 st80
  replace st80 : St Z w0 w81 (Blk lb 37 [lv] :: Blk tb 79 [(.map (some mb))] :: Row 9 1 lv l.length (l.map Value.string) :: Mp Value.string (Value.int .i64) mb (fm l) :: L) := st80
  have e83 : ρ82 0 = (.pointer (some ad)) := (h0 0 rfl).trans rfl
  have e84 : ρ82 1 = (pt tb 0) := (h0 1 rfl).trans rfl
  have e85 : ρ82 2 = (pt lb 0) := (h0 2 rfl).trans rfl
  have e86 : ρ82 24 = (.bool true) := ((hv 20 rfl).2 24 rfl).trans (hv 20 rfl).1
  clear hv h0
  refine Wnt ?_
  refine WC.condT e86 ?_
  refine WC.ret <| thenQ_r <| retQ.none (.inr rfl) ?_
  exact ⟨_, rfl, rfl, lv, by rw [show addVar l x.var = l from by simp_all [addVar, fm_pos]]; exact st80⟩
 by_cases h87 : x.var = (⟨#[95]⟩ : ByteArray)
 ·refine WC.draw 21 (fun jj vv => match jj with | 0 => vv = (.pointer (some ad)) | 1 => vv = (.pointer (some ad)) | 2 => vv = (.pointer (some ad)) | 3 => vv = (.string x.var) | 4 => vv = (.bool (decide (x.var = (⟨#[]⟩ : ByteArray)))) | 5 => vv = (.bool (decide (x.var = (⟨#[]⟩ : ByteArray)))) | 6 => vv = (.pointer (some ad)) | 7 => vv = (.pointer (some ad)) | 8 => vv = (.pointer (some ad)) | 9 => vv = (.string x.var) | 10 => vv = (.bool (decide (x.var = (⟨#[95]⟩ : ByteArray)))) | 11 => vv = (.bool (decide (x.var = (⟨#[95]⟩ : ByteArray)))) | 12 => vv = (.bool (decide (x.var = (⟨#[95]⟩ : ByteArray)))) | 13 => vv = undef | 14 => vv = undef | 15 => vv = undef | 16 => vv = undef | 17 => vv = undef | 18 => vv = undef | 19 => vv = undef | 20 => vv = (.bool true) | _ => True) (fun _ _ => []) st fmix (by kernel_rfl) ((obS (obS (obS (obS (obS (obS (obS (obS (obS (obS (obS (obS (obS (obS (obS (obS (obS (obS (obS (obS (obS ob0 ?_) ?_) ?_) ?_) ?_) ?_) ?_) ?_) ?_) ?_) ?_) ?_) ?_) ?_) ?_) ?_) ?_) ?_) ?_) ?_) ?_)) ?_
  ·intro vals ρ w89 X hd h0 st88
   have e90 : ρ 0 = (.pointer (some ad)) := (h0 0 rfl).trans rfl
   refine W1 (OpT.move (.pointer (some ad)) e90 ?_)
   refine WL.nil ?_
   exact oneQ.mk ⟨rfl, st88⟩
  ·intro vals ρ w92 X hd h0 st91
   have e93 : ρ 4 = (.pointer (some ad)) := ((hd 0 rfl).2 4 rfl).trans (hd 0 rfl).1
   refine W1 (OpT.nilc ad e93 ?_)
   refine WL.nil ?_
   exact oneQ.mk ⟨rfl, st91⟩
  ·intro vals ρ w95 X hd h0 st94
   have e96 : ρ 5 = (.pointer (some ad)) := ((hd 1 rfl).2 5 rfl).trans (hd 1 rfl).1
   refine W1 (OpT.field 0 ad ad tf69_0 e96 rfl ?_)
   refine WL.nil ?_
   exact oneQ.mk ⟨rfl, st94⟩
  ·intro vals ρ w98 X hd h0 st97
   have e99 : ρ 6 = (.pointer (some ad)) := ((hd 2 rfl).2 6 rfl).trans (hd 2 rfl).1
   refine W1 (OpT.loadS ad (.string x.var) ta9 e99 (hr.cell st97 (j := 0) rfl) ?_)
   refine WL.nil ?_
   exact oneQ.mk ⟨rfl, st97⟩
  ·intro vals ρ w101 X hd h0 st100
   have e102 : ρ 7 = (.string x.var) := ((hd 3 rfl).2 7 rfl).trans (hd 3 rfl).1
   refine W1 (OpT.seq (x.var) ((⟨#[]⟩ : ByteArray)) e102 rfl ?_)
   refine WL.nil ?_
   exact oneQ.mk ⟨rfl, st100⟩
  ·intro vals ρ w104 X hd h0 st103
   have e105 : ρ 8 = (.bool (decide (x.var = (⟨#[]⟩ : ByteArray)))) := ((hd 4 rfl).2 8 rfl).trans (hd 4 rfl).1
   refine W1 (OpT.move (.bool (decide (x.var = (⟨#[]⟩ : ByteArray)))) e105 ?_)
   refine WL.nil ?_
   exact oneQ.mk ⟨rfl, st103⟩
  ·intro vals ρ w107 X hd h0 st106
   have e108 : ρ 0 = (.pointer (some ad)) := (h0 0 rfl).trans rfl
   have e109 : ρ 9 = (.bool (decide (x.var = (⟨#[]⟩ : ByteArray)))) := ((hd 5 rfl).2 9 rfl).trans (hd 5 rfl).1
   refine W2 (dj := 9) (e109.trans (bF h1)) (OpT.move (.pointer (some ad)) e108 ?_)
   refine WL.nil ?_
   exact oneQ.mk ⟨rfl, st106⟩
  ·intro vals ρ w111 X hd h0 st110
   have e112 : ρ 9 = (.bool (decide (x.var = (⟨#[]⟩ : ByteArray)))) := ((hd 5 rfl).2 9 rfl).trans (hd 5 rfl).1
   have e113 : ρ 10 = (.pointer (some ad)) := ((hd 6 rfl).2 10 rfl).trans (hd 6 rfl).1
   refine W2 (dj := 9) (e112.trans (bF h1)) (OpT.nilc ad e113 ?_)
   refine WL.nil ?_
   exact oneQ.mk ⟨rfl, st110⟩
  ·intro vals ρ w115 X hd h0 st114
   have e116 : ρ 9 = (.bool (decide (x.var = (⟨#[]⟩ : ByteArray)))) := ((hd 5 rfl).2 9 rfl).trans (hd 5 rfl).1
   have e117 : ρ 11 = (.pointer (some ad)) := ((hd 7 rfl).2 11 rfl).trans (hd 7 rfl).1
   refine W2 (dj := 9) (e116.trans (bF h1)) (OpT.field 0 ad ad tf69_0 e117 rfl ?_)
   refine WL.nil ?_
   exact oneQ.mk ⟨rfl, st114⟩
  ·intro vals ρ w119 X hd h0 st118
   have e120 : ρ 9 = (.bool (decide (x.var = (⟨#[]⟩ : ByteArray)))) := ((hd 5 rfl).2 9 rfl).trans (hd 5 rfl).1
   have e121 : ρ 12 = (.pointer (some ad)) := ((hd 8 rfl).2 12 rfl).trans (hd 8 rfl).1
   refine W2 (dj := 9) (e120.trans (bF h1)) (OpT.loadS ad (.string x.var) ta9 e121 (hr.cell st118 (j := 0) rfl) ?_)
   refine WL.nil ?_
   exact oneQ.mk ⟨rfl, st118⟩
  ·intro vals ρ w123 X hd h0 st122
   have e124 : ρ 9 = (.bool (decide (x.var = (⟨#[]⟩ : ByteArray)))) := ((hd 5 rfl).2 9 rfl).trans (hd 5 rfl).1
   have e125 : ρ 13 = (.string x.var) := ((hd 9 rfl).2 13 rfl).trans (hd 9 rfl).1
   refine W2 (dj := 9) (e124.trans (bF h1)) (OpT.seq (x.var) ((⟨#[95]⟩ : ByteArray)) e125 rfl ?_)
   refine WL.nil ?_
   exact oneQ.mk ⟨rfl, st122⟩
  ·intro vals ρ w127 X hd h0 st126
   have e128 : ρ 9 = (.bool (decide (x.var = (⟨#[]⟩ : ByteArray)))) := ((hd 5 rfl).2 9 rfl).trans (hd 5 rfl).1
   have e129 : ρ 14 = (.bool (decide (x.var = (⟨#[95]⟩ : ByteArray)))) := ((hd 10 rfl).2 14 rfl).trans (hd 10 rfl).1
   refine W1 (OpT.pickF (.bool (decide (x.var = (⟨#[95]⟩ : ByteArray)))) (e128.trans (bF h1)) e129 ?_)
   refine WL.nil ?_
   exact oneQ.mk ⟨rfl, st126⟩
  ·intro vals ρ w131 X hd h0 st130
   have e132 : ρ 15 = (.bool (decide (x.var = (⟨#[95]⟩ : ByteArray)))) := ((hd 11 rfl).2 15 rfl).trans (hd 11 rfl).1
   refine W1 (OpT.move (.bool (decide (x.var = (⟨#[95]⟩ : ByteArray)))) e132 ?_)
   refine WL.nil ?_
   exact oneQ.mk ⟨rfl, st130⟩
  ·intro vals ρ w134 X hd h0 st133
   have e135 : ρ 1 = (pt tb 0) := (h0 1 rfl).trans rfl
   have e136 : ρ 16 = (.bool (decide (x.var = (⟨#[95]⟩ : ByteArray)))) := ((hd 12 rfl).2 16 rfl).trans (hd 12 rfl).1
   refine WL.pass (dj := 16) (c := true) rfl rfl rfl (e136.trans (bT h87)) rfl ?_
   refine WL.nil ?_
   exact oneQ.mk ⟨rfl, st133⟩
  ·intro vals ρ w138 X hd h0 st137
   have e139 : ρ 0 = (.pointer (some ad)) := (h0 0 rfl).trans rfl
   have e140 : ρ 16 = (.bool (decide (x.var = (⟨#[95]⟩ : ByteArray)))) := ((hd 12 rfl).2 16 rfl).trans (hd 12 rfl).1
   refine WL.pass (dj := 16) (c := true) rfl rfl rfl (e140.trans (bT h87)) rfl ?_
   refine WL.nil ?_
   exact oneQ.mk ⟨rfl, st137⟩
  ·intro vals ρ w142 X hd h0 st141
   have e143 : ρ 16 = (.bool (decide (x.var = (⟨#[95]⟩ : ByteArray)))) := ((hd 12 rfl).2 16 rfl).trans (hd 12 rfl).1
   have e144 : ρ 18 = undef := ((hd 14 rfl).2 18 rfl).trans (hd 14 rfl).1
   refine WL.pass (dj := 16) (c := true) rfl rfl rfl (e143.trans (bT h87)) rfl ?_
   refine WL.nil ?_
   exact oneQ.mk ⟨rfl, st141⟩
  ·intro vals ρ w146 X hd h0 st145
   have e147 : ρ 16 = (.bool (decide (x.var = (⟨#[95]⟩ : ByteArray)))) := ((hd 12 rfl).2 16 rfl).trans (hd 12 rfl).1
   have e148 : ρ 19 = undef := ((hd 15 rfl).2 19 rfl).trans (hd 15 rfl).1
   refine WL.pass (dj := 16) (c := true) rfl rfl rfl (e147.trans (bT h87)) rfl ?_
   refine WL.nil ?_
   exact oneQ.mk ⟨rfl, st145⟩
  ·intro vals ρ w150 X hd h0 st149
   have e151 : ρ 16 = (.bool (decide (x.var = (⟨#[95]⟩ : ByteArray)))) := ((hd 12 rfl).2 16 rfl).trans (hd 12 rfl).1
   have e152 : ρ 20 = undef := ((hd 16 rfl).2 20 rfl).trans (hd 16 rfl).1
   refine WL.pass (dj := 16) (c := true) rfl rfl rfl (e151.trans (bT h87)) rfl ?_
   refine WL.nil ?_
   exact oneQ.mk ⟨rfl, st149⟩
  ·intro vals ρ w154 X hd h0 st153
   have e155 : ρ 16 = (.bool (decide (x.var = (⟨#[95]⟩ : ByteArray)))) := ((hd 12 rfl).2 16 rfl).trans (hd 12 rfl).1
   have e156 : ρ 17 = undef := ((hd 13 rfl).2 17 rfl).trans (hd 13 rfl).1
   have e157 : ρ 21 = undef := ((hd 17 rfl).2 21 rfl).trans (hd 17 rfl).1
   refine WL.pass (dj := 16) (c := true) rfl rfl rfl (e155.trans (bT h87)) rfl ?_
   refine WL.nil ?_
   exact oneQ.mk ⟨rfl, st153⟩
  ·intro vals ρ w159 X hd h0 st158
   have e160 : ρ 16 = (.bool (decide (x.var = (⟨#[95]⟩ : ByteArray)))) := ((hd 12 rfl).2 16 rfl).trans (hd 12 rfl).1
   have e161 : ρ 22 = undef := ((hd 18 rfl).2 22 rfl).trans (hd 18 rfl).1
   refine WL.pass (dj := 16) (c := true) rfl rfl rfl (e160.trans (bT h87)) rfl ?_
   refine WL.nil ?_
   exact oneQ.mk ⟨rfl, st158⟩
  ·intro vals ρ w163 X hd h0 st162
   have e164 : ρ 16 = (.bool (decide (x.var = (⟨#[95]⟩ : ByteArray)))) := ((hd 12 rfl).2 16 rfl).trans (hd 12 rfl).1
   have e165 : ρ 23 = undef := ((hd 19 rfl).2 23 rfl).trans (hd 19 rfl).1
   refine W1 (OpT.pickT (.bool true) (e164.trans (bT h87)) rfl ?_)
   refine WL.nil ?_
   exact oneQ.mk ⟨rfl, st162⟩
  intro vals ρ168 w167 hv h0 st166
  replace st166 : St Z w0 w167 (Blk lb 37 [lv] :: Blk tb 79 [(.map (some mb))] :: Row 9 1 lv l.length (l.map Value.string) :: Mp Value.string (Value.int .i64) mb (fm l) :: L) := st166
  have e169 : ρ168 0 = (.pointer (some ad)) := (h0 0 rfl).trans rfl
  have e170 : ρ168 1 = (pt tb 0) := (h0 1 rfl).trans rfl
  have e171 : ρ168 2 = (pt lb 0) := (h0 2 rfl).trans rfl
  have e172 : ρ168 24 = (.bool true) := ((hv 20 rfl).2 24 rfl).trans (hv 20 rfl).1
  clear hv h0
  refine Wnt ?_
  refine WC.condT e172 ?_
  refine WC.ret <| thenQ_r <| retQ.none (.inr rfl) ?_
  exact ⟨_, rfl, rfl, lv, by rw [show addVar l x.var = l from by simp_all [addVar, fm_pos]]; exact st166⟩
 refine WC.draw 21 (fun jj vv => match jj with | 0 => vv = (.pointer (some ad)) | 1 => vv = (.pointer (some ad)) | 2 => vv = (.pointer (some ad)) | 3 => vv = (.string x.var) | 4 => vv = (.bool (decide (x.var = (⟨#[]⟩ : ByteArray)))) | 5 => vv = (.bool (decide (x.var = (⟨#[]⟩ : ByteArray)))) | 6 => vv = (.pointer (some ad)) | 7 => vv = (.pointer (some ad)) | 8 => vv = (.pointer (some ad)) | 9 => vv = (.string x.var) | 10 => vv = (.bool (decide (x.var = (⟨#[95]⟩ : ByteArray)))) | 11 => vv = (.bool (decide (x.var = (⟨#[95]⟩ : ByteArray)))) | 12 => vv = (.bool (decide (x.var = (⟨#[95]⟩ : ByteArray)))) | 13 => vv = (.map (some mb)) | 14 => vv = (.pointer (some ad)) | 15 => vv = (.pointer (some ad)) | 16 => vv = (.pointer (some ad)) | 17 => vv = (.string x.var) | 18 => vv = (.int .i64 (((mget (fm l) x.var).getD 0))) | 19 => vv = (.bool (decide (0 < ((mget (fm l) x.var).getD 0)))) | 20 => vv = (.bool (decide (0 < ((mget (fm l) x.var).getD 0)))) | _ => True) (fun _ _ => []) st fmix (by kernel_rfl) ((obS (obS (obS (obS (obS (obS (obS (obS (obS (obS (obS (obS (obS (obS (obS (obS (obS (obS (obS (obS (obS ob0 ?_) ?_) ?_) ?_) ?_) ?_) ?_) ?_) ?_) ?_) ?_) ?_) ?_) ?_) ?_) ?_) ?_) ?_) ?_) ?_) ?_)) ?_
 ·intro vals ρ w174 X hd h0 st173
  have e175 : ρ 0 = (.pointer (some ad)) := (h0 0 rfl).trans rfl
  refine W1 (OpT.move (.pointer (some ad)) e175 ?_)
  refine WL.nil ?_
  exact oneQ.mk ⟨rfl, st173⟩
 ·intro vals ρ w177 X hd h0 st176
  have e178 : ρ 4 = (.pointer (some ad)) := ((hd 0 rfl).2 4 rfl).trans (hd 0 rfl).1
  refine W1 (OpT.nilc ad e178 ?_)
  refine WL.nil ?_
  exact oneQ.mk ⟨rfl, st176⟩
 ·intro vals ρ w180 X hd h0 st179
  have e181 : ρ 5 = (.pointer (some ad)) := ((hd 1 rfl).2 5 rfl).trans (hd 1 rfl).1
  refine W1 (OpT.field 0 ad ad tf69_0 e181 rfl ?_)
  refine WL.nil ?_
  exact oneQ.mk ⟨rfl, st179⟩
 ·intro vals ρ w183 X hd h0 st182
  have e184 : ρ 6 = (.pointer (some ad)) := ((hd 2 rfl).2 6 rfl).trans (hd 2 rfl).1
  refine W1 (OpT.loadS ad (.string x.var) ta9 e184 (hr.cell st182 (j := 0) rfl) ?_)
  refine WL.nil ?_
  exact oneQ.mk ⟨rfl, st182⟩
 ·intro vals ρ w186 X hd h0 st185
  have e187 : ρ 7 = (.string x.var) := ((hd 3 rfl).2 7 rfl).trans (hd 3 rfl).1
  refine W1 (OpT.seq (x.var) ((⟨#[]⟩ : ByteArray)) e187 rfl ?_)
  refine WL.nil ?_
  exact oneQ.mk ⟨rfl, st185⟩
 ·intro vals ρ w189 X hd h0 st188
  have e190 : ρ 8 = (.bool (decide (x.var = (⟨#[]⟩ : ByteArray)))) := ((hd 4 rfl).2 8 rfl).trans (hd 4 rfl).1
  refine W1 (OpT.move (.bool (decide (x.var = (⟨#[]⟩ : ByteArray)))) e190 ?_)
  refine WL.nil ?_
  exact oneQ.mk ⟨rfl, st188⟩
 ·intro vals ρ w192 X hd h0 st191
  have e193 : ρ 0 = (.pointer (some ad)) := (h0 0 rfl).trans rfl
  have e194 : ρ 9 = (.bool (decide (x.var = (⟨#[]⟩ : ByteArray)))) := ((hd 5 rfl).2 9 rfl).trans (hd 5 rfl).1
  refine W2 (dj := 9) (e194.trans (bF h1)) (OpT.move (.pointer (some ad)) e193 ?_)
  refine WL.nil ?_
  exact oneQ.mk ⟨rfl, st191⟩
 ·intro vals ρ w196 X hd h0 st195
  have e197 : ρ 9 = (.bool (decide (x.var = (⟨#[]⟩ : ByteArray)))) := ((hd 5 rfl).2 9 rfl).trans (hd 5 rfl).1
  have e198 : ρ 10 = (.pointer (some ad)) := ((hd 6 rfl).2 10 rfl).trans (hd 6 rfl).1
  refine W2 (dj := 9) (e197.trans (bF h1)) (OpT.nilc ad e198 ?_)
  refine WL.nil ?_
  exact oneQ.mk ⟨rfl, st195⟩
 ·intro vals ρ w200 X hd h0 st199
  have e201 : ρ 9 = (.bool (decide (x.var = (⟨#[]⟩ : ByteArray)))) := ((hd 5 rfl).2 9 rfl).trans (hd 5 rfl).1
  have e202 : ρ 11 = (.pointer (some ad)) := ((hd 7 rfl).2 11 rfl).trans (hd 7 rfl).1
  refine W2 (dj := 9) (e201.trans (bF h1)) (OpT.field 0 ad ad tf69_0 e202 rfl ?_)
  refine WL.nil ?_
  exact oneQ.mk ⟨rfl, st199⟩
 ·intro vals ρ w204 X hd h0 st203
  have e205 : ρ 9 = (.bool (decide (x.var = (⟨#[]⟩ : ByteArray)))) := ((hd 5 rfl).2 9 rfl).trans (hd 5 rfl).1
  have e206 : ρ 12 = (.pointer (some ad)) := ((hd 8 rfl).2 12 rfl).trans (hd 8 rfl).1
  refine W2 (dj := 9) (e205.trans (bF h1)) (OpT.loadS ad (.string x.var) ta9 e206 (hr.cell st203 (j := 0) rfl) ?_)
  refine WL.nil ?_
  exact oneQ.mk ⟨rfl, st203⟩
 ·intro vals ρ w208 X hd h0 st207
  have e209 : ρ 9 = (.bool (decide (x.var = (⟨#[]⟩ : ByteArray)))) := ((hd 5 rfl).2 9 rfl).trans (hd 5 rfl).1
  have e210 : ρ 13 = (.string x.var) := ((hd 9 rfl).2 13 rfl).trans (hd 9 rfl).1
  refine W2 (dj := 9) (e209.trans (bF h1)) (OpT.seq (x.var) ((⟨#[95]⟩ : ByteArray)) e210 rfl ?_)
  refine WL.nil ?_
  exact oneQ.mk ⟨rfl, st207⟩
 ·intro vals ρ w212 X hd h0 st211
  have e213 : ρ 9 = (.bool (decide (x.var = (⟨#[]⟩ : ByteArray)))) := ((hd 5 rfl).2 9 rfl).trans (hd 5 rfl).1
  have e214 : ρ 14 = (.bool (decide (x.var = (⟨#[95]⟩ : ByteArray)))) := ((hd 10 rfl).2 14 rfl).trans (hd 10 rfl).1
  refine W1 (OpT.pickF (.bool (decide (x.var = (⟨#[95]⟩ : ByteArray)))) (e213.trans (bF h1)) e214 ?_)
  refine WL.nil ?_
  exact oneQ.mk ⟨rfl, st211⟩
 ·intro vals ρ w216 X hd h0 st215
  have e217 : ρ 15 = (.bool (decide (x.var = (⟨#[95]⟩ : ByteArray)))) := ((hd 11 rfl).2 15 rfl).trans (hd 11 rfl).1
  refine W1 (OpT.move (.bool (decide (x.var = (⟨#[95]⟩ : ByteArray)))) e217 ?_)
  refine WL.nil ?_
  exact oneQ.mk ⟨rfl, st215⟩
 ·intro vals ρ w219 X hd h0 st218
  have e220 : ρ 1 = (pt tb 0) := (h0 1 rfl).trans rfl
  have e221 : ρ 16 = (.bool (decide (x.var = (⟨#[95]⟩ : ByteArray)))) := ((hd 12 rfl).2 16 rfl).trans (hd 12 rfl).1
  refine W2 (dj := 16) (e221.trans (bF h87)) (OpT.loadS ⟨tb, 0, none⟩ (.map (some mb)) ta79 e220 (st218.cellB (i := 1) rfl rfl) ?_)
  refine WL.nil ?_
  exact oneQ.mk ⟨rfl, st218⟩
 ·intro vals ρ w223 X hd h0 st222
  have e224 : ρ 0 = (.pointer (some ad)) := (h0 0 rfl).trans rfl
  have e225 : ρ 16 = (.bool (decide (x.var = (⟨#[95]⟩ : ByteArray)))) := ((hd 12 rfl).2 16 rfl).trans (hd 12 rfl).1
  refine W2 (dj := 16) (e225.trans (bF h87)) (OpT.move (.pointer (some ad)) e224 ?_)
  refine WL.nil ?_
  exact oneQ.mk ⟨rfl, st222⟩
 ·intro vals ρ w227 X hd h0 st226
  have e228 : ρ 16 = (.bool (decide (x.var = (⟨#[95]⟩ : ByteArray)))) := ((hd 12 rfl).2 16 rfl).trans (hd 12 rfl).1
  have e229 : ρ 18 = (.pointer (some ad)) := ((hd 14 rfl).2 18 rfl).trans (hd 14 rfl).1
  refine W2 (dj := 16) (e228.trans (bF h87)) (OpT.nilc ad e229 ?_)
  refine WL.nil ?_
  exact oneQ.mk ⟨rfl, st226⟩
 ·intro vals ρ w231 X hd h0 st230
  have e232 : ρ 16 = (.bool (decide (x.var = (⟨#[95]⟩ : ByteArray)))) := ((hd 12 rfl).2 16 rfl).trans (hd 12 rfl).1
  have e233 : ρ 19 = (.pointer (some ad)) := ((hd 15 rfl).2 19 rfl).trans (hd 15 rfl).1
  refine W2 (dj := 16) (e232.trans (bF h87)) (OpT.field 0 ad ad tf69_0 e233 rfl ?_)
  refine WL.nil ?_
  exact oneQ.mk ⟨rfl, st230⟩
 ·intro vals ρ w235 X hd h0 st234
  have e236 : ρ 16 = (.bool (decide (x.var = (⟨#[95]⟩ : ByteArray)))) := ((hd 12 rfl).2 16 rfl).trans (hd 12 rfl).1
  have e237 : ρ 20 = (.pointer (some ad)) := ((hd 16 rfl).2 20 rfl).trans (hd 16 rfl).1
  refine W2 (dj := 16) (e236.trans (bF h87)) (OpT.loadS ad (.string x.var) ta9 e237 (hr.cell st234 (j := 0) rfl) ?_)
  refine WL.nil ?_
  exact oneQ.mk ⟨rfl, st234⟩
 ·intro vals ρ w239 X hd h0 st238
  have e240 : ρ 16 = (.bool (decide (x.var = (⟨#[95]⟩ : ByteArray)))) := ((hd 12 rfl).2 16 rfl).trans (hd 12 rfl).1
  have e241 : ρ 17 = (.map (some mb)) := ((hd 13 rfl).2 17 rfl).trans (hd 13 rfl).1
  have e242 : ρ 21 = (.string x.var) := ((hd 17 rfl).2 21 rfl).trans (hd 17 rfl).1
  refine W2 (dj := 16) (e240.trans (bF h87)) (OpT.lookupI st238 3 rfl ko9 tu79 tz3 (x.var) e241 e242 ?_)
  refine WL.nil ?_
  exact oneQ.mk ⟨rfl, st238⟩
 ·intro vals ρ w244 X hd h0 st243
  have e245 : ρ 16 = (.bool (decide (x.var = (⟨#[95]⟩ : ByteArray)))) := ((hd 12 rfl).2 16 rfl).trans (hd 12 rfl).1
  have e246 : ρ 22 = (.int .i64 (((mget (fm l) x.var).getD 0))) := ((hd 18 rfl).2 22 rfl).trans (hd 18 rfl).1
  refine W2 (dj := 16) (e245.trans (bF h87)) (OpT.igt .i64 (((mget (fm l) x.var).getD 0)) (0) e246 rfl ?_)
  refine WL.nil ?_
  exact oneQ.mk ⟨rfl, st243⟩
 ·intro vals ρ w248 X hd h0 st247
  have e249 : ρ 16 = (.bool (decide (x.var = (⟨#[95]⟩ : ByteArray)))) := ((hd 12 rfl).2 16 rfl).trans (hd 12 rfl).1
  have e250 : ρ 23 = (.bool (decide (0 < ((mget (fm l) x.var).getD 0)))) := ((hd 19 rfl).2 23 rfl).trans (hd 19 rfl).1
  refine W1 (OpT.pickF (.bool (decide (0 < ((mget (fm l) x.var).getD 0)))) (e249.trans (bF h87)) e250 ?_)
  refine WL.nil ?_
  exact oneQ.mk ⟨rfl, st247⟩
 intro vals ρ253 w252 hv h0 st251
 replace st251 : St Z w0 w252 (Blk lb 37 [lv] :: Blk tb 79 [(.map (some mb))] :: Row 9 1 lv l.length (l.map Value.string) :: Mp Value.string (Value.int .i64) mb (fm l) :: L) := st251
 have e254 : ρ253 0 = (.pointer (some ad)) := (h0 0 rfl).trans rfl
 have e255 : ρ253 1 = (pt tb 0) := (h0 1 rfl).trans rfl
 have e256 : ρ253 2 = (pt lb 0) := (h0 2 rfl).trans rfl
 have e257 : ρ253 24 = (.bool (decide (0 < ((mget (fm l) x.var).getD 0)))) := ((hv 20 rfl).2 24 rfl).trans (hv 20 rfl).1
 clear hv h0
 refine Wnt ?_
 refine WC.condP (0 < ((mget (fm l) x.var).getD 0)) e257 (fun h258 => ?_) (fun h258 => ?_)
 ·refine WC.ret <| thenQ_r <| retQ.none (.inr rfl) ?_
  exact ⟨_, rfl, rfl, lv, by rw [show addVar l x.var = l from by simp_all [addVar, fm_pos]]; exact st251⟩
 refine WC.skip ?_
 refine thenQ_n ?_
 refine WC.seq ?_
 refine WC.draw 6 (fun jj vv => match jj with | 0 => vv = lv | 1 => vv = (.pointer (some ad)) | 2 => vv = (.pointer (some ad)) | 3 => vv = (.pointer (some ad)) | 4 => vv = (.string x.var) | 5 => vv = (.slice (some ⟨(bk vv), 0, none⟩) 1 1) | _ => True) (fun jj vv => match jj with | 5 => [Blk (bk vv) 9 [(.string x.var)]] | _ => []) st251 fmix (by kernel_rfl) ((obS (obS (obS (obS (obS (obS ob0 ?_) ?_) ?_) ?_) ?_) ?_)) ?_
 ·intro vals ρ w260 X hd h0 st259
  have e261 : ρ 2 = (pt lb 0) := (h0 2 rfl).trans e256
  refine W1 (OpT.loadS ⟨lb, 0, none⟩ lv ta37 e261 (st259.cellB (i := 0) rfl rfl) ?_)
  refine WL.nil ?_
  exact oneQ.mk ⟨rfl, st259⟩
 ·intro vals ρ w263 X hd h0 st262
  have e264 : ρ 0 = (.pointer (some ad)) := (h0 0 rfl).trans e254
  refine W1 (OpT.move (.pointer (some ad)) e264 ?_)
  refine WL.nil ?_
  exact oneQ.mk ⟨rfl, st262⟩
 ·intro vals ρ w266 X hd h0 st265
  have e267 : ρ 26 = (.pointer (some ad)) := ((hd 1 rfl).2 26 rfl).trans (hd 1 rfl).1
  refine W1 (OpT.nilc ad e267 ?_)
  refine WL.nil ?_
  exact oneQ.mk ⟨rfl, st265⟩
 ·intro vals ρ w269 X hd h0 st268
  have e270 : ρ 27 = (.pointer (some ad)) := ((hd 2 rfl).2 27 rfl).trans (hd 2 rfl).1
  refine W1 (OpT.field 0 ad ad tf69_0 e270 rfl ?_)
  refine WL.nil ?_
  exact oneQ.mk ⟨rfl, st268⟩
 ·intro vals ρ w272 X hd h0 st271
  have e273 : ρ 28 = (.pointer (some ad)) := ((hd 3 rfl).2 28 rfl).trans (hd 3 rfl).1
  refine W1 (OpT.loadS ad (.string x.var) ta9 e273 (hr.cell st271 (j := 0) rfl) ?_)
  refine WL.nil ?_
  exact oneQ.mk ⟨rfl, st271⟩
 ·intro vals ρ w275 X hd h0 st274
  have e276 : ρ 29 = (.string x.var) := ((hd 4 rfl).2 29 rfl).trans (hd 4 rfl).1
  refine W1 (OpT.buildSlice st274 [(0, (.string x.var))] [(.string x.var)] tu37 ts9 tz9 (mp1 e276) (by kernel_rfl) (by decide) (fun b277 w278 st279 => ?_))
  refine WL.nil ?_
  exact oneQ.mk ⟨rfl, st279⟩
 intro vals ρ282 w281 hv h0 st280
 replace st280 : St Z w0 w281 (Blk (bk (vals 5)) 9 [(.string x.var)] :: Blk lb 37 [lv] :: Blk tb 79 [(.map (some mb))] :: Row 9 1 lv l.length (l.map Value.string) :: Mp Value.string (Value.int .i64) mb (fm l) :: L) := st280
 have e284 : ρ282 0 = (.pointer (some ad)) := (h0 0 rfl).trans e254
 have e285 : ρ282 1 = (pt tb 0) := (h0 1 rfl).trans e255
 have e286 : ρ282 2 = (pt lb 0) := (h0 2 rfl).trans e256
 have e287 : ρ282 25 = lv := ((hv 0 rfl).2 25 rfl).trans (hv 0 rfl).1
 have e288 : ρ282 30 = (.slice (some ⟨(bk (vals 5)), 0, none⟩) 1 1) := ((hv 5 rfl).2 30 rfl).trans (hv 5 rfl).1
 clear hv h0
 generalize bk (vals 5) = b283 at *
 have st289 : St Z w0 w281 (Blk b283 9 [(.string x.var)] :: Row 9 1 lv l.length (l.map Value.string) :: Blk lb 37 [lv] :: Blk tb 79 [(.map (some mb))] :: Mp Value.string (Value.int .i64) mb (fm l) :: L) := St.selT [Blk b283 9 [(.string x.var)], Blk lb 37 [lv], Blk tb 79 [(.map (some mb))], Row 9 1 lv l.length (l.map Value.string), Mp Value.string (Value.int .i64) mb (fm l)] [0, 3, 1, 2, 4] rfl (by decide) st280
 refine W1 (OpT.append st289 1 tu37 ts9 tz9 rfl tb9 (by decide) e287 e288 rfl rfl (by omega) (by omega) (fun v290 w291 st292 hn293 => ?_))
 have o294 := st292.rowOne (i := 0) rfl
 have c295 := st292.rowCel (i := 0) rfl
 refine WL.stepN (OpT.storeS st292 1 v290 rfl ts37 e286 rfl o294 c295 rfl (fun w296 st297 => ?_))
 refine Wnt ?_
 refine WC.draw 7 (fun jj vv => match jj with | 0 => vv = (.map (some mb)) | 1 => vv = (.pointer (some ad)) | 2 => vv = (.pointer (some ad)) | 3 => vv = (.pointer (some ad)) | 4 => vv = (.string x.var) | 5 => vv = v290 | 6 => vv = (.int .i64 ((((l.length + 1) : Nat) : Int))) | _ => True) (fun _ _ => []) st297 fmix (by kernel_rfl) ((obS (obS (obS (obS (obS (obS (obS ob0 ?_) ?_) ?_) ?_) ?_) ?_) ?_)) ?_
 ·intro vals ρ w299 X hd h0 st298
  have e300 : ρ 1 = (pt tb 0) := (h0 1 rfl).trans e285
  refine W1 (OpT.loadS ⟨tb, 0, none⟩ (.map (some mb)) ta79 e300 (st298.cellB (i := 2) rfl rfl) ?_)
  refine WL.nil ?_
  exact oneQ.mk ⟨rfl, st298⟩
 ·intro vals ρ w302 X hd h0 st301
  have e303 : ρ 0 = (.pointer (some ad)) := (h0 0 rfl).trans e284
  refine W1 (OpT.move (.pointer (some ad)) e303 ?_)
  refine WL.nil ?_
  exact oneQ.mk ⟨rfl, st301⟩
 ·intro vals ρ w305 X hd h0 st304
  have e306 : ρ 33 = (.pointer (some ad)) := ((hd 1 rfl).2 33 rfl).trans (hd 1 rfl).1
  refine W1 (OpT.nilc ad e306 ?_)
  refine WL.nil ?_
  exact oneQ.mk ⟨rfl, st304⟩
 ·intro vals ρ w308 X hd h0 st307
  have e309 : ρ 34 = (.pointer (some ad)) := ((hd 2 rfl).2 34 rfl).trans (hd 2 rfl).1
  refine W1 (OpT.field 0 ad ad tf69_0 e309 rfl ?_)
  refine WL.nil ?_
  exact oneQ.mk ⟨rfl, st307⟩
 ·intro vals ρ w311 X hd h0 st310
  have e312 : ρ 35 = (.pointer (some ad)) := ((hd 3 rfl).2 35 rfl).trans (hd 3 rfl).1
  refine W1 (OpT.loadS ad (.string x.var) ta9 e312 (hr.cell st310 (j := 0) rfl) ?_)
  refine WL.nil ?_
  exact oneQ.mk ⟨rfl, st310⟩
 ·intro vals ρ w314 X hd h0 st313
  have e315 : ρ 2 = (pt lb 0) := (h0 2 rfl).trans e286
  refine W1 (OpT.loadS ⟨lb, 0, none⟩ v290 ta37 e315 (st313.cellB (i := 1) rfl rfl) ?_)
  refine WL.nil ?_
  exact oneQ.mk ⟨rfl, st313⟩
 ·intro vals ρ w317 X hd h0 st316
  have e318 : ρ 37 = v290 := ((hd 5 rfl).2 37 rfl).trans (hd 5 rfl).1
  refine W1 (OpT.lenRow st316 0 rfl rfl tu37 e318 ?_)
  refine WL.nil ?_
  exact oneQ.mk ⟨rfl, st316⟩
 intro vals ρ321 w320 hv h0 st319
 replace st319 : St Z w0 w320 (Row 9 1 v290 (l.length + 1) ((l.map Value.string) ++ [(.string x.var)]) :: Blk lb 37 [v290] :: Blk tb 79 [(.map (some mb))] :: Mp Value.string (Value.int .i64) mb (fm l) :: L) := st319
 have e322 : ρ321 32 = (.map (some mb)) := ((hv 0 rfl).2 32 rfl).trans (hv 0 rfl).1
 have e323 : ρ321 36 = (.string x.var) := ((hv 4 rfl).2 36 rfl).trans (hv 4 rfl).1
 have e324 : ρ321 38 = (.int .i64 ((((l.length + 1) : Nat) : Int))) := ((hv 6 rfl).2 38 rfl).trans (hv 6 rfl).1
 clear hv h0
 refine WL.stepN (OpT.mapSet st319 3 rfl ko9 tu79 (x.var) ((((l.length + 1) : Nat) : Int)) e322 e323 e324 (fun w325 st326 => ?_))
 refine WL.nil ?_
 refine retQ.none (.inl rfl) ?_
 have hm : x.var ∉ l := fun h => h258 ((fm_pos l x.var).2 h)
 have e1 : addVar l x.var = l ++ [x.var] := by simp_all [addVar]
 refine ⟨_, rfl, rfl, v290, ?_⟩
 unfold VS; rw [e1, ← fm_set l x.var hm]
 simp only [List.map_append, List.map_cons, List.map_nil, List.length_append, List.length_cons, List.length_nil]
 exact (St.selT [Row 9 1 v290 (l.length + 1) ((l.map Value.string) ++ [(.string x.var)]), Blk lb 37 [v290], Blk tb 79 [(.map (some mb))], Mp Value.string (Value.int .i64) mb (mset (fm l) x.var (((l.length + 1) : Nat) : Int))] [1, 2, 0, 3] rfl (by decide) st326)

end Go.Ped
set_option linter.unusedVariables false
set_option maxRecDepth 20000
namespace Go.Ped
open Go Go.Eng Go.RowKit Go.Proofs

theorem ti146 : (match Tryz.prog.underlying 146 with | some (.interface _) => false | some _ => true | none => false) = true := by kernel_rfl
theorem tz146 : zeroB Tryz.prog 146 = some (.pointer none) := by kernel_rfl
theorem ti125 : (match Tryz.prog.underlying 125 with | some (.interface _) => false | some _ => true | none => false) = true := by kernel_rfl
theorem tz125 : zeroB Tryz.prog 125 = some (.pointer none) := by kernel_rfl
theorem ti158 : (match Tryz.prog.underlying 158 with | some (.interface _) => false | some _ => true | none => false) = true := by kernel_rfl
theorem tz158 : zeroB Tryz.prog 158 = some (.pointer none) := by kernel_rfl
theorem ti157 : (match Tryz.prog.underlying 157 with | some (.interface _) => false | some _ => true | none => false) = true := by kernel_rfl
theorem cal91 : CallOk Tryz.prog 91 := ⟨⟨Tryz.f91, Tryz.func91, rfl, by decide⟩⟩
theorem cal90 : CallOk Tryz.prog 90 := ⟨⟨Tryz.f90, Tryz.func90, rfl, by decide⟩⟩
theorem tf54_1 : fieldB Tryz.prog 54 1 = some 1 := by kernel_rfl
theorem ta51 : aggB Tryz.prog 51 = some false := by kernel_rfl
theorem tf54_2 : fieldB Tryz.prog 54 2 = some 2 := by kernel_rfl
theorem ta52 : aggB Tryz.prog 52 = some false := by kernel_rfl
theorem tu52 : Tryz.prog.underlying 52 = some (.slice 74) := by kernel_rfl
theorem ts74 : sizeB Tryz.prog 74 = some 16 := by kernel_rfl
def addVars (l : List ByteArray) (ts : List Trm) : List ByteArray := ts.foldl (fun l t => addVar l t.var) l
mutual
def expT : Exp → List Trm
  | .mk _ t ks => t :: expsT ks
def expsT : List Exp → List Trm
  | [] => []
  | k :: ks => expT k ++ expsT ks
end
theorem expsT_eq : ∀ ks : List Exp, expsT ks = ks.flatMap expT
  | [] => rfl
  | k :: ks => by rw [expsT, expsT_eq ks]; rfl
theorem expT_eq (e : Exp) : expT e = e.term :: e.kids.flatMap expT := by cases e; rw [expT, expsT_eq]; rfl
def atmT (a : Atm) : List Trm := a.args.flatMap fun t => [t]
def ltrT (l : Ltr) : List Trm := atmT l.atom ++ (expT l.left ++ expT l.right)
def rulT (r : Rul) : List Trm := (r.head.flatMap fun a => [a.term]) ++ r.body.flatMap ltrT
theorem kid_lt {e x : Exp} {i : Nat} (hx : e.kids[i]? = some x) : SizeOf.sizeOf x < SizeOf.sizeOf e := by
  cases e with
  | mk o t ks =>
    have hx' : ks[i]? = some x := hx
    have := List.sizeOf_lt_of_mem (List.mem_of_getElem? hx')
    simp only [Exp.mk.sizeOf_spec]
    omega
theorem fl_step {α β : Type} (f : α → List β) {xs : List α} {i : Nat} {x : α} (hx : xs[i]? = some x) : (xs.take (i + 1)).flatMap f = (xs.take i).flatMap f ++ f x := by
  rw [List.take_add_one, hx]; simp
theorem fl_le {α β : Type} (f : α → List β) {xs : List α} {i : Nat} {x : α} (hx : xs[i]? = some x) : ((xs.take i).flatMap f).length + (f x).length ≤ (xs.flatMap f).length := by
  have h : xs.flatMap f = (xs.take (i + 1)).flatMap f ++ (xs.drop (i + 1)).flatMap f := by rw [← List.flatMap_append, List.take_append_drop]
  rw [h, fl_step f hx]; simp only [List.length_append]; omega
theorem addVars_app (l : List ByteArray) (a b : List Trm) : addVars (addVars l a) b = addVars l (a ++ b) := by simp [addVars]
theorem addVar_len (l : List ByteArray) (v : ByteArray) : (addVar l v).length ≤ l.length + 1 := by unfold addVar; split <;> simp
theorem addVars_len (l : List ByteArray) (ts : List Trm) : (addVars l ts).length ≤ l.length + ts.length := by
  unfold addVars
  induction ts generalizing l with
  | nil => simp
  | cons t ts ih => have := ih (addVar l t.var); have := addVar_len l t.var; simp only [List.foldl_cons, List.length_cons]; omega
theorem addVars_step {α : Type} (f : α → List Trm) {xs : List α} {i : Nat} {x : α} (hx : xs[i]? = some x) (l : List ByteArray) : addVars (addVars l ((xs.take i).flatMap f)) (f x) = addVars l ((xs.take (i + 1)).flatMap f) := by rw [addVars_app, fl_step f hx]
theorem addVars_all {α : Type} (f : α → List Trm) {xs : List α} {i : Nat} (hi : i ≤ xs.length) (h : ¬ (i : Int) < (xs.length : Int)) (l : List ByteArray) : addVars l ((xs.take i).flatMap f) = addVars l (xs.flatMap f) := by rw [List.take_of_length_le (by omega)]
theorem walk_Atm {Z : Nat → Prop} {w0 w : World} {L : List Res} {lb tb mb : Nat} {lv : Value} {l : List ByteArray} (st : St Z w0 w (VS lb tb mb lv l L)) (a : Atm) (hl : l.length + (atmT a).length < 1073741824) (ad : Addr) (av : Value) (hr : RowZ Z w0 ad [(.string a.pred), av]) (ha : rTrm.sl Z w0 av a.args) : Calls Tryz.prog 90 #[(.iface 157 (.pointer (some ad))), (.func (.func 91) #[] #[(pt tb 0), (pt lb 0)])] w (Ret fun r w' => r = .tuple #[] ∧ ∃ lv', St Z w0 w' (VS lb tb mb lv' (addVars l (atmT a)) L)) := by
 have hl2 : l.length + (a.args.flatMap fun t => [t]).length < 1073741824 := hl
 have hal := Rl.sl_le ha
 refine calls_of_WC (m := 119) (rs := []) Tryz.func90 rfl rfl rfl rfl ?_
 refine Wsr ?_
 refine W1 (OpT.move (.iface 157 (.pointer (some ad))) rfl ?_)
 refine Wnt ?_
 refine WC.block ?_
 refine Wsr ?_
 refine W1 (OpT.tassF 157 (.pointer (some ad)) ti146 tz146 rfl rfl ?_)
 refine W1 (OpT.extract [(.pointer none), (.bool false)] (.bool false) rfl rfl ?_)
 refine W1 (OpT.extract [(.pointer none), (.bool false)] (.pointer none) rfl rfl ?_)
 refine Wnt ?_
 refine WC.condF rfl ?_
 refine Wsr ?_
 refine W1 (OpT.tassF 157 (.pointer (some ad)) ti125 tz125 rfl rfl ?_)
 refine W1 (OpT.extract [(.pointer none), (.bool false)] (.bool false) rfl rfl ?_)
 refine W1 (OpT.extract [(.pointer none), (.bool false)] (.pointer none) rfl rfl ?_)
 refine Wnt ?_
 refine WC.condF rfl ?_
 refine Wsr ?_
 refine W1 (OpT.tassF 157 (.pointer (some ad)) ti158 tz158 rfl rfl ?_)
 refine W1 (OpT.extract [(.pointer none), (.bool false)] (.bool false) rfl rfl ?_)
 refine W1 (OpT.extract [(.pointer none), (.bool false)] (.pointer none) rfl rfl ?_)
 refine Wnt ?_
 refine WC.condF rfl ?_
 refine Wsr ?_
 refine W1 (OpT.tassT (.pointer (some ad)) ti157 rfl ?_)
 refine W1 (OpT.extract [(.pointer (some ad)), (.bool true)] (.bool true) rfl rfl ?_)
 refine W1 (OpT.extract [(.pointer (some ad)), (.bool true)] (.pointer (some ad)) rfl rfl ?_)
 refine Wnt ?_
 refine WC.condT rfl ?_
 refine Wsr ?_
 refine W1 (OpT.assign (.pointer (some ad)) rfl ?_)
 refine Wns ?_
 refine W1 (OpT.move (.pointer (some ad)) rfl ?_)
 refine W1 (OpT.nilc ad rfl ?_)
 refine W1 (OpT.field 1 ad (ad.add 1) tf62_1 rfl rfl ?_)
 refine W1 (OpT.loadS (ad.add 1) av ta60 rfl (hr.cell st (j := 1) rfl) ?_)
 refine W1 (OpT.lenR rfl tu60 ha rfl ?_)
 refine W1 (OpT.move (ii 0) rfl ?_)
 refine Wnt ?_
 refine WC.block ?_
 refine WC.loop (fun m ρ wz => ∃ (i : Nat), ∃ (lv2 : Value), m = a.args.length - i ∧ i ≤ a.args.length ∧ ρ 107 = (ni i) ∧ ρ 1 = (.func (.func 91) #[] #[(pt tb 0), (pt lb 0)]) ∧ ρ 10 = (.pointer (some ad)) ∧ ρ 106 = (ni (a.args.length)) ∧ St Z w0 wz (Blk lb 37 [lv2] :: Blk tb 79 [(.map (some mb))] :: Row 9 1 lv2 (addVars l ((a.args.take i).flatMap (fun t : Trm => [t]))).length ((addVars l ((a.args.take i).flatMap (fun t : Trm => [t]))).map Value.string) :: Mp Value.string (Value.int .i64) mb (fm (addVars l ((a.args.take i).flatMap (fun t : Trm => [t])))) :: L)) _ ⟨0, lv, rfl, by omega, rfl, rfl, rfl, rfl, st⟩ ?_
 rintro m1 ρ2 w3 ⟨i, lv2, hm10, hp5, hs6, hs7, hs8, hs9, st4⟩
 have hfl : ∀ x, a.args[i]? = some x → ((a.args.take i).flatMap (fun t : Trm => [t])).length + ((fun t : Trm => [t]) x).length ≤ (a.args.flatMap (fun t : Trm => [t])).length := fun x hx => fl_le _ hx
 refine Wsr ?_
 refine W1 (OpT.ilt .i64 (((i : Nat) : Int)) (((a.args.length : Nat) : Int)) hs6 hs9 ?_)
 refine Wnt ?_
 refine WC.seq ?_
 refine WC.condP (((i : Nat) : Int) < ((a.args.length : Nat) : Int)) rfl (fun h11 => ?_) (fun h11 => ?_)
 ·refine WC.skip ?_
  refine thenQ_n ?_
  refine WC.seq ?_
  refine WC.block ?_
  refine Wsr ?_
  refine W1 (OpT.move (ni i) hs6 ?_)
  refine W1 (OpT.assign (ni i) rfl ?_)
  refine Wnr ?_
  refine W1 (OpT.move (.func (.func 91) #[] #[(pt tb 0), (pt lb 0)]) hs7 ?_)
  refine W1 (OpT.move (.pointer (some ad)) hs8 ?_)
  refine W1 (OpT.nilc ad rfl ?_)
  refine W1 (OpT.field 1 ad (ad.add 1) tf62_1 rfl rfl ?_)
  refine W1 (OpT.loadS (ad.add 1) av ta60 rfl (hr.cell st4 (j := 1) rfl) ?_)
  refine W1 (OpT.move (ni i) rfl ?_)
  obtain ⟨x12, hx12⟩ : ∃ x, (a.args)[i]? = some x := ⟨_, List.getElem?_eq_getElem (by omega)⟩
  refine W1 (OpT.idxX tu60 ts69 ha rfl .i64 (i) rfl hx12 (fun ad13 cs14 hr15 hR16 => ?_))
  have hR16c := hR16
  obtain rfl := hR16
  refine W1 (OpT.callS cal91 [] [(pt tb 0), (pt lb 0)] [(.pointer (some ad13)), (pt tb 0), (pt lb 0)] rfl (ca1 rfl) (vars1_spec st4 (by have := hfl _ hx12; have := addVars_len l ((a.args.take i).flatMap (fun t : Trm => [t])); (try simp only [List.length_cons, List.length_nil] at *); omega) x12 ad13 hr15) ?_)
  rintro v18 w19 ⟨rfl, lv17, st20⟩
  replace st20 : St Z w0 w19 (VS lb tb mb lv17 (addVars (addVars l ((a.args.take i).flatMap (fun t : Trm => [t]))) [x12]) L) := st20
  refine WL.nil ?_
  refine blkQ_n ?_
  refine thenQ_n ?_
  refine WC.region ?_
  refine W1 (OpT.iadd .i64 (((i : Nat) : Int)) (1) (((i + 1 : Nat) : Int)) hs6 rfl (wadd (a := i) (b := 1) (by omega)) ?_)
  refine W1 (OpT.move (ni (i + 1)) rfl ?_)
  refine WL.nil ?_
  rw [show (addVars (addVars l ((a.args.take i).flatMap (fun t : Trm => [t]))) [x12]) = addVars l ((a.args.take (i + 1)).flatMap (fun t : Trm => [t])) from addVars_step (fun t : Trm => [t]) hx12 l] at st20
  exact loopQ_n _ (by omega) ⟨i + 1, lv17, rfl, by omega, rfl, hs7, hs8, hs9, st20⟩
 refine WC.exit ?_
 refine thenQ_x ?_
 refine loopQ_x ?_
 refine blkQ_hit ?_
 refine blkQ_n ?_
 refine retQ.none (.inl rfl) ?_
 rw [addVars_all (fun t : Trm => [t]) ‹i ≤ a.args.length› h11 l] at st4
 exact ⟨_, rfl, rfl, lv2, st4⟩

theorem walkE (n : Nat) (e : Exp) (he : SizeOf.sizeOf e ≤ n) (ih : ∀ x : Exp, SizeOf.sizeOf x < n → ∀ {Z : Nat → Prop} {w0 w : World} {L : List Res} {lb tb mb : Nat} {lv : Value} {l : List ByteArray} (_ : St Z w0 w (VS lb tb mb lv l L)) (_ : l.length + (expT x).length < 1073741824) (ad : Addr) (kv : Value) (_ : RowZ Z w0 ad [(.int .i8 (x.op)), (.string x.term.var), (.int .i8 (x.term.val.kind)), (.int .i64 (x.term.val.num)), (.string x.term.val.text), kv]) (_ : rExp.sl Z w0 kv x.kids), Calls Tryz.prog 90 #[(.iface 158 (.pointer (some ad))), (.func (.func 91) #[] #[(pt tb 0), (pt lb 0)])] w (Ret fun r w' => r = .tuple #[] ∧ ∃ lv', St Z w0 w' (VS lb tb mb lv' (addVars l (expT x)) L))) {Z : Nat → Prop} {w0 w : World} {L : List Res} {lb tb mb : Nat} {lv : Value} {l : List ByteArray} (st : St Z w0 w (VS lb tb mb lv l L)) (hl : l.length + (expT e).length < 1073741824) (ad : Addr) (kv : Value) (hr : RowZ Z w0 ad [(.int .i8 (e.op)), (.string e.term.var), (.int .i8 (e.term.val.kind)), (.int .i64 (e.term.val.num)), (.string e.term.val.text), kv]) (hk : rExp.sl Z w0 kv e.kids) : Calls Tryz.prog 90 #[(.iface 158 (.pointer (some ad))), (.func (.func 91) #[] #[(pt tb 0), (pt lb 0)])] w (Ret fun r w' => r = .tuple #[] ∧ ∃ lv', St Z w0 w' (VS lb tb mb lv' (addVars l (expT e)) L)) := by
 have hl2 : l.length + 1 + (e.kids.flatMap expT).length < 1073741824 := by rw [expT_eq] at hl; simp only [List.length_cons] at hl; omega
 have hal := Rl.sl_le hk
 refine calls_of_WC (m := 119) (rs := []) Tryz.func90 rfl rfl rfl rfl ?_
 refine Wsr ?_
 refine W1 (OpT.move (.iface 158 (.pointer (some ad))) rfl ?_)
 refine Wnt ?_
 refine WC.block ?_
 refine Wsr ?_
 refine W1 (OpT.tassF 158 (.pointer (some ad)) ti146 tz146 rfl rfl ?_)
 refine W1 (OpT.extract [(.pointer none), (.bool false)] (.bool false) rfl rfl ?_)
 refine W1 (OpT.extract [(.pointer none), (.bool false)] (.pointer none) rfl rfl ?_)
 refine Wnt ?_
 refine WC.condF rfl ?_
 refine Wsr ?_
 refine W1 (OpT.tassF 158 (.pointer (some ad)) ti125 tz125 rfl rfl ?_)
 refine W1 (OpT.extract [(.pointer none), (.bool false)] (.bool false) rfl rfl ?_)
 refine W1 (OpT.extract [(.pointer none), (.bool false)] (.pointer none) rfl rfl ?_)
 refine Wnt ?_
 refine WC.condF rfl ?_
 refine Wsr ?_
 refine W1 (OpT.tassT (.pointer (some ad)) ti158 rfl ?_)
 refine W1 (OpT.extract [(.pointer (some ad)), (.bool true)] (.bool true) rfl rfl ?_)
 refine W1 (OpT.extract [(.pointer (some ad)), (.bool true)] (.pointer (some ad)) rfl rfl ?_)
 refine Wnt ?_
 refine WC.condT rfl ?_
 refine Wsr ?_
 refine W1 (OpT.assign (.pointer (some ad)) rfl ?_)
 refine Wns ?_
 refine W1 (OpT.move (.func (.func 91) #[] #[(pt tb 0), (pt lb 0)]) rfl ?_)
 refine W1 (OpT.move (.pointer (some ad)) rfl ?_)
 refine W1 (OpT.nilc ad rfl ?_)
 refine W1 (OpT.field 1 ad (ad.add 1) tf72_1 rfl rfl ?_)
 refine W1 (OpT.callS cal91 [] [(pt tb 0), (pt lb 0)] [(.pointer (some (ad.add 1))), (pt tb 0), (pt lb 0)] rfl (ca1 rfl) (vars1_spec st (by (try simp only [List.length_cons, List.length_nil] at *); omega) e.term (ad.add 1) (hr.part 1 4)) ?_)
 rintro v2 w3 ⟨rfl, lv1, st4⟩
 replace st4 : St Z w0 w3 (VS lb tb mb lv1 (addVars l [e.term]) L) := st4
 refine Wns ?_
 refine W1 (OpT.move (.pointer (some ad)) rfl ?_)
 refine W1 (OpT.nilc ad rfl ?_)
 refine W1 (OpT.field 5 ad (ad.add 5) tf72_2 rfl rfl ?_)
 refine W1 (OpT.loadS (ad.add 5) kv ta70 rfl (hr.cell st4 (j := 5) rfl) ?_)
 refine W1 (OpT.lenR rfl tu70 hk rfl ?_)
 refine W1 (OpT.move (ii 0) rfl ?_)
 refine Wnt ?_
 refine WC.block ?_
 refine WC.loop (fun m ρ wz => ∃ (i : Nat), ∃ (lv2 : Value), m = e.kids.length - i ∧ i ≤ e.kids.length ∧ ρ 86 = (ni i) ∧ ρ 1 = (.func (.func 91) #[] #[(pt tb 0), (pt lb 0)]) ∧ ρ 8 = (.pointer (some ad)) ∧ ρ 85 = (ni (e.kids.length)) ∧ St Z w0 wz (Blk lb 37 [lv2] :: Blk tb 79 [(.map (some mb))] :: Row 9 1 lv2 (addVars (addVars l [e.term]) ((e.kids.take i).flatMap expT)).length ((addVars (addVars l [e.term]) ((e.kids.take i).flatMap expT)).map Value.string) :: Mp Value.string (Value.int .i64) mb (fm (addVars (addVars l [e.term]) ((e.kids.take i).flatMap expT))) :: L)) _ ⟨0, lv1, rfl, by omega, rfl, rfl, rfl, rfl, st4⟩ ?_
 rintro m5 ρ6 w7 ⟨i, lv2, hm14, hp9, hs10, hs11, hs12, hs13, st8⟩
 have hfl : ∀ x, e.kids[i]? = some x → ((e.kids.take i).flatMap expT).length + (expT x).length ≤ (e.kids.flatMap expT).length := fun x hx => fl_le _ hx
 refine Wsr ?_
 refine W1 (OpT.ilt .i64 (((i : Nat) : Int)) (((e.kids.length : Nat) : Int)) hs10 hs13 ?_)
 refine Wnt ?_
 refine WC.seq ?_
 refine WC.condP (((i : Nat) : Int) < ((e.kids.length : Nat) : Int)) rfl (fun h15 => ?_) (fun h15 => ?_)
 ·refine WC.skip ?_
  refine thenQ_n ?_
  refine WC.seq ?_
  refine WC.block ?_
  refine Wsr ?_
  refine W1 (OpT.move (ni i) hs10 ?_)
  refine W1 (OpT.assign (ni i) rfl ?_)
  refine Wnr ?_
  refine W1 (OpT.move (.pointer (some ad)) hs12 ?_)
  refine W1 (OpT.nilc ad rfl ?_)
  refine W1 (OpT.field 5 ad (ad.add 5) tf72_2 rfl rfl ?_)
  refine W1 (OpT.loadS (ad.add 5) kv ta70 rfl (hr.cell st8 (j := 5) rfl) ?_)
  refine W1 (OpT.move (ni i) rfl ?_)
  obtain ⟨x16, hx16⟩ : ∃ x, (e.kids)[i]? = some x := ⟨_, List.getElem?_eq_getElem (by omega)⟩
  refine W1 (OpT.idxX tu70 ts72 hk rfl .i64 (i) rfl hx16 (fun ad17 cs18 hr19 hR20 => ?_))
  have hR20c := hR20
  obtain ⟨kv21, rfl, hk22⟩ := rExp_kids hR20
  refine W1 (OpT.makeIface (.pointer (some ad17)) ti158 rfl ?_)
  refine W1 (OpT.move (.func (.func 91) #[] #[(pt tb 0), (pt lb 0)]) hs11 ?_)
  refine W1 (OpT.callS cal90 [] [] [(.iface 158 (.pointer (some ad17))), (.func (.func 91) #[] #[(pt tb 0), (pt lb 0)])] rfl (ca2 rfl rfl) (ih x16 (by have := kid_lt hx16; omega) st8 (by have := hfl _ hx16; have := addVars_len l [e.term]; have := addVars_len (addVars l [e.term]) ((e.kids.take i).flatMap expT); (try simp only [List.length_cons, List.length_nil] at *); omega) _ _ hr19 hk22) ?_)
  rintro v24 w25 ⟨rfl, lv23, st26⟩
  replace st26 : St Z w0 w25 (VS lb tb mb lv23 (addVars (addVars (addVars l [e.term]) ((e.kids.take i).flatMap expT)) (expT x16)) L) := st26
  refine WL.nil ?_
  refine blkQ_n ?_
  refine thenQ_n ?_
  refine WC.region ?_
  refine W1 (OpT.iadd .i64 (((i : Nat) : Int)) (1) (((i + 1 : Nat) : Int)) hs10 rfl (wadd (a := i) (b := 1) (by omega)) ?_)
  refine W1 (OpT.move (ni (i + 1)) rfl ?_)
  refine WL.nil ?_
  rw [show (addVars (addVars (addVars l [e.term]) ((e.kids.take i).flatMap expT)) (expT x16)) = addVars (addVars l [e.term]) ((e.kids.take (i + 1)).flatMap expT) from addVars_step expT hx16 (addVars l [e.term])] at st26
  exact loopQ_n _ (by omega) ⟨i + 1, lv23, rfl, by omega, rfl, hs11, hs12, hs13, st26⟩
 refine WC.exit ?_
 refine thenQ_x ?_
 refine loopQ_x ?_
 refine blkQ_hit ?_
 refine blkQ_n ?_
 refine retQ.none (.inl rfl) ?_
 rw [addVars_all expT ‹i ≤ e.kids.length› h15 (addVars l [e.term])] at st8
 rw [addVars_app] at st8
 exact ⟨_, rfl, rfl, lv2, by rw [expT_eq]; exact st8⟩

theorem walkEn : ∀ (n : Nat) (e : Exp), SizeOf.sizeOf e < n → ∀ {Z : Nat → Prop} {w0 w : World} {L : List Res} {lb tb mb : Nat} {lv : Value} {l : List ByteArray} (_ : St Z w0 w (VS lb tb mb lv l L)) (_ : l.length + (expT e).length < 1073741824) (ad : Addr) (kv : Value) (_ : RowZ Z w0 ad [(.int .i8 (e.op)), (.string e.term.var), (.int .i8 (e.term.val.kind)), (.int .i64 (e.term.val.num)), (.string e.term.val.text), kv]) (_ : rExp.sl Z w0 kv e.kids), Calls Tryz.prog 90 #[(.iface 158 (.pointer (some ad))), (.func (.func 91) #[] #[(.pointer (some ⟨tb, 0, none⟩)), (.pointer (some ⟨lb, 0, none⟩))])] w (Ret fun r w' => r = .tuple #[] ∧ ∃ lv', St Z w0 w' (VS lb tb mb lv' (addVars l (expT e)) L)) := by
  intro n
  induction n with
  | zero => intro e h; exact absurd h (Nat.not_lt_zero _)
  | succ n ih => intro e h Z w0 w L lb tb mb lv l st hl ad kv hr hk; exact walkE n e (by omega) ih st hl ad kv hr hk
theorem walk_Exp {Z : Nat → Prop} {w0 w : World} {L : List Res} {lb tb mb : Nat} {lv : Value} {l : List ByteArray} (st : St Z w0 w (VS lb tb mb lv l L)) (e : Exp) (hl : l.length + (expT e).length < 1073741824) (ad : Addr) (kv : Value) (hr : RowZ Z w0 ad [(.int .i8 (e.op)), (.string e.term.var), (.int .i8 (e.term.val.kind)), (.int .i64 (e.term.val.num)), (.string e.term.val.text), kv]) (hk : rExp.sl Z w0 kv e.kids) : Calls Tryz.prog 90 #[(.iface 158 (.pointer (some ad))), (.func (.func 91) #[] #[(.pointer (some ⟨tb, 0, none⟩)), (.pointer (some ⟨lb, 0, none⟩))])] w (Ret fun r w' => r = .tuple #[] ∧ ∃ lv', St Z w0 w' (VS lb tb mb lv' (addVars l (expT e)) L)) := walkEn _ e (Nat.lt_succ_self _) st hl ad kv hr hk
theorem walk_Ltr {Z : Nat → Prop} {w0 w : World} {L : List Res} {lb tb mb : Nat} {lv : Value} {l : List ByteArray} (st : St Z w0 w (VS lb tb mb lv l L)) (y : Ltr) (hl0 : l.length + (ltrT y).length < 1073741824) (ad : Addr) (av lk rk : Value) (hr : RowZ Z w0 ad [(.int .i8 (y.kind)), (.string y.atom.pred), av, (.int .i8 (y.rel)), (.int .i8 (y.left.op)), (.string y.left.term.var), (.int .i8 (y.left.term.val.kind)), (.int .i64 (y.left.term.val.num)), (.string y.left.term.val.text), lk, (.int .i8 (y.right.op)), (.string y.right.term.var), (.int .i8 (y.right.term.val.kind)), (.int .i64 (y.right.term.val.num)), (.string y.right.term.val.text), rk]) (ha : rTrm.sl Z w0 av y.atom.args) (hl : rExp.sl Z w0 lk y.left.kids) (hq : rExp.sl Z w0 rk y.right.kids) : Calls Tryz.prog 90 #[(.iface 125 (.pointer (some ad))), (.func (.func 91) #[] #[(pt tb 0), (pt lb 0)])] w (Ret fun r w' => r = .tuple #[] ∧ ∃ lv', St Z w0 w' (VS lb tb mb lv' (addVars l (ltrT y)) L)) := by
 have hl2 : l.length + (atmT y.atom).length + (expT y.left).length + (expT y.right).length < 1073741824 := by simp only [ltrT, List.length_append] at hl0; omega
 refine calls_of_WC (m := 119) (rs := []) Tryz.func90 rfl rfl rfl rfl ?_
 refine Wsr ?_
 refine W1 (OpT.move (.iface 125 (.pointer (some ad))) rfl ?_)
 refine Wnt ?_
 refine WC.block ?_
 refine Wsr ?_
 refine W1 (OpT.tassF 125 (.pointer (some ad)) ti146 tz146 rfl rfl ?_)
 refine W1 (OpT.extract [(.pointer none), (.bool false)] (.bool false) rfl rfl ?_)
 refine W1 (OpT.extract [(.pointer none), (.bool false)] (.pointer none) rfl rfl ?_)
 refine Wnt ?_
 refine WC.condF rfl ?_
 refine Wsr ?_
 refine W1 (OpT.tassT (.pointer (some ad)) ti125 rfl ?_)
 refine W1 (OpT.extract [(.pointer (some ad)), (.bool true)] (.bool true) rfl rfl ?_)
 refine W1 (OpT.extract [(.pointer (some ad)), (.bool true)] (.pointer (some ad)) rfl rfl ?_)
 refine Wnt ?_
 refine WC.condT rfl ?_
 refine Wsr ?_
 refine W1 (OpT.assign (.pointer (some ad)) rfl ?_)
 refine Wns ?_
 refine W1 (OpT.move (.pointer (some ad)) rfl ?_)
 refine W1 (OpT.nilc ad rfl ?_)
 refine W1 (OpT.field 1 ad (ad.add 1) tf74_1 rfl rfl ?_)
 refine W1 (OpT.makeIface (.pointer (some (ad.add 1))) ti157 rfl ?_)
 refine W1 (OpT.move (.func (.func 91) #[] #[(pt tb 0), (pt lb 0)]) rfl ?_)
 refine W1 (OpT.callS cal90 [] [] [(.iface 157 (.pointer (some (ad.add 1)))), (.func (.func 91) #[] #[(pt tb 0), (pt lb 0)])] rfl (ca2 rfl rfl) (walk_Atm st y.atom (by (try simp only [List.length_cons, List.length_nil] at *); omega) _ _ (hr.part 1 2) ha) ?_)
 rintro v2 w3 ⟨rfl, lv1, st4⟩
 replace st4 : St Z w0 w3 (VS lb tb mb lv1 (addVars l (atmT y.atom)) L) := st4
 refine Wns ?_
 refine W1 (OpT.move (.pointer (some ad)) rfl ?_)
 refine W1 (OpT.nilc ad rfl ?_)
 refine W1 (OpT.field 4 ad (ad.add 4) tf74_3 rfl rfl ?_)
 refine W1 (OpT.makeIface (.pointer (some (ad.add 4))) ti158 rfl ?_)
 refine W1 (OpT.move (.func (.func 91) #[] #[(pt tb 0), (pt lb 0)]) rfl ?_)
 refine W1 (OpT.callS cal90 [] [] [(.iface 158 (.pointer (some (ad.add 4)))), (.func (.func 91) #[] #[(pt tb 0), (pt lb 0)])] rfl (ca2 rfl rfl) (walk_Exp st4 y.left (by have := addVars_len l (atmT y.atom); (try simp only [List.length_cons, List.length_nil] at *); omega) _ _ (hr.part 4 6) hl) ?_)
 rintro v6 w7 ⟨rfl, lv5, st8⟩
 replace st8 : St Z w0 w7 (VS lb tb mb lv5 (addVars (addVars l (atmT y.atom)) (expT y.left)) L) := st8
 refine Wnr ?_
 refine W1 (OpT.move (.pointer (some ad)) rfl ?_)
 refine W1 (OpT.nilc ad rfl ?_)
 refine W1 (OpT.field 10 ad (ad.add 10) tf74_4 rfl rfl ?_)
 refine W1 (OpT.makeIface (.pointer (some (ad.add 10))) ti158 rfl ?_)
 refine W1 (OpT.move (.func (.func 91) #[] #[(pt tb 0), (pt lb 0)]) rfl ?_)
 refine W1 (OpT.callS cal90 [] [] [(.iface 158 (.pointer (some (ad.add 10)))), (.func (.func 91) #[] #[(pt tb 0), (pt lb 0)])] rfl (ca2 rfl rfl) (walk_Exp st8 y.right (by have := addVars_len l (atmT y.atom); have := addVars_len (addVars l (atmT y.atom)) (expT y.left); (try simp only [List.length_cons, List.length_nil] at *); omega) _ _ (hr.part 10 6) hq) ?_)
 rintro v10 w11 ⟨rfl, lv9, st12⟩
 replace st12 : St Z w0 w11 (VS lb tb mb lv9 (addVars (addVars (addVars l (atmT y.atom)) (expT y.left)) (expT y.right)) L) := st12
 refine WL.nil ?_
 refine blkQ_n ?_
 refine retQ.none (.inl rfl) ?_
 exact ⟨_, rfl, rfl, _, by rw [ltrT, ← addVars_app, ← addVars_app]; exact st12⟩

theorem walk_Rul {Z : Nat → Prop} {w0 w : World} {L : List Res} {lb tb mb : Nat} {lv : Value} {l : List ByteArray} (st : St Z w0 w (VS lb tb mb lv l L)) (y : Rul) (hl0 : l.length + (rulT y).length < 1073741824) (ad : Addr) (av bv : Value) (hr : RowZ Z w0 ad [(.string y.pred), av, bv]) (ha : rAgr.sl Z w0 av y.head) (hb : rLtr.sl Z w0 bv y.body) : Calls Tryz.prog 90 #[(.iface 146 (.pointer (some ad))), (.func (.func 91) #[] #[(pt tb 0), (pt lb 0)])] w (Ret fun r w' => r = .tuple #[] ∧ ∃ lv', St Z w0 w' (VS lb tb mb lv' (addVars l (rulT y)) L)) := by
 have hl2 : l.length + (y.head.flatMap (fun a : Agr => [a.term])).length + (y.body.flatMap ltrT).length < 1073741824 := by simp only [rulT, List.length_append] at hl0; omega
 have hal := Rl.sl_le ha
 have hbl := Rl.sl_le hb
 refine calls_of_WC (m := 119) (rs := []) Tryz.func90 rfl rfl rfl rfl ?_
 refine Wsr ?_
 refine W1 (OpT.move (.iface 146 (.pointer (some ad))) rfl ?_)
 refine Wnt ?_
 refine WC.block ?_
 refine Wsr ?_
 refine W1 (OpT.tassT (.pointer (some ad)) ti146 rfl ?_)
 refine W1 (OpT.extract [(.pointer (some ad)), (.bool true)] (.bool true) rfl rfl ?_)
 refine W1 (OpT.extract [(.pointer (some ad)), (.bool true)] (.pointer (some ad)) rfl rfl ?_)
 refine Wnt ?_
 refine WC.condT rfl ?_
 refine Wsr ?_
 refine W1 (OpT.assign (.pointer (some ad)) rfl ?_)
 refine Wnt ?_
 refine WC.seq ?_
 refine Wsr ?_
 refine W1 (OpT.move (.pointer (some ad)) rfl ?_)
 refine W1 (OpT.nilc ad rfl ?_)
 refine W1 (OpT.field 1 ad (ad.add 1) tf54_1 rfl rfl ?_)
 refine W1 (OpT.loadS (ad.add 1) av ta51 rfl (hr.cell st (j := 1) rfl) ?_)
 refine W1 (OpT.lenR rfl tu51 ha rfl ?_)
 refine W1 (OpT.move (ii 0) rfl ?_)
 refine Wnt ?_
 refine WC.block ?_
 refine WC.loop (fun m ρ wz => ∃ (i : Nat), ∃ (lv2 : Value), m = y.head.length - i ∧ i ≤ y.head.length ∧ ρ 21 = (ni i) ∧ ρ 1 = (.func (.func 91) #[] #[(pt tb 0), (pt lb 0)]) ∧ ρ 4 = (.pointer (some ad)) ∧ ρ 20 = (ni (y.head.length)) ∧ St Z w0 wz (Blk lb 37 [lv2] :: Blk tb 79 [(.map (some mb))] :: Row 9 1 lv2 (addVars l ((y.head.take i).flatMap (fun a : Agr => [a.term]))).length ((addVars l ((y.head.take i).flatMap (fun a : Agr => [a.term]))).map Value.string) :: Mp Value.string (Value.int .i64) mb (fm (addVars l ((y.head.take i).flatMap (fun a : Agr => [a.term])))) :: L)) _ ⟨0, lv, rfl, by omega, rfl, rfl, rfl, rfl, st⟩ ?_
 rintro m1 ρ2 w3 ⟨i, lv2, hm10, hp5, hs6, hs7, hs8, hs9, st4⟩
 have hfl : ∀ x, y.head[i]? = some x → ((y.head.take i).flatMap (fun a : Agr => [a.term])).length + ((fun a : Agr => [a.term]) x).length ≤ (y.head.flatMap (fun a : Agr => [a.term])).length := fun x hx => fl_le _ hx
 refine Wsr ?_
 refine W1 (OpT.ilt .i64 (((i : Nat) : Int)) (((y.head.length : Nat) : Int)) hs6 hs9 ?_)
 refine Wnt ?_
 refine WC.seq ?_
 refine WC.condP (((i : Nat) : Int) < ((y.head.length : Nat) : Int)) rfl (fun h11 => ?_) (fun h11 => ?_)
 ·refine WC.skip ?_
  refine thenQ_n ?_
  refine WC.seq ?_
  refine WC.block ?_
  refine Wsr ?_
  refine W1 (OpT.move (ni i) hs6 ?_)
  refine W1 (OpT.assign (ni i) rfl ?_)
  refine Wnr ?_
  refine W1 (OpT.move (.func (.func 91) #[] #[(pt tb 0), (pt lb 0)]) hs7 ?_)
  refine W1 (OpT.move (.pointer (some ad)) hs8 ?_)
  refine W1 (OpT.nilc ad rfl ?_)
  refine W1 (OpT.field 1 ad (ad.add 1) tf54_1 rfl rfl ?_)
  refine W1 (OpT.loadS (ad.add 1) av ta51 rfl (hr.cell st4 (j := 1) rfl) ?_)
  refine W1 (OpT.move (ni i) rfl ?_)
  obtain ⟨x12, hx12⟩ : ∃ x, (y.head)[i]? = some x := ⟨_, List.getElem?_eq_getElem (by omega)⟩
  refine W1 (OpT.idxX tu51 ts102 ha rfl .i64 (i) rfl hx12 (fun ad13 cs14 hr15 hR16 => ?_))
  have hR16c := hR16
  obtain rfl := hR16
  refine W1 (OpT.field 1 ad13 (ad13.add 1) tf102_1 rfl rfl ?_)
  refine W1 (OpT.callS cal91 [] [(pt tb 0), (pt lb 0)] [(.pointer (some (ad13.add 1))), (pt tb 0), (pt lb 0)] rfl (ca1 rfl) (vars1_spec st4 (by have := hfl _ hx12; have := addVars_len l ((y.head.take i).flatMap (fun a : Agr => [a.term])); (try simp only [List.length_cons, List.length_nil] at *); omega) x12.term (ad13.add 1) (hr15.part 1 4)) ?_)
  rintro v18 w19 ⟨rfl, lv17, st20⟩
  replace st20 : St Z w0 w19 (VS lb tb mb lv17 (addVars (addVars l ((y.head.take i).flatMap (fun a : Agr => [a.term]))) [x12.term]) L) := st20
  refine WL.nil ?_
  refine blkQ_n ?_
  refine thenQ_n ?_
  refine WC.region ?_
  refine W1 (OpT.iadd .i64 (((i : Nat) : Int)) (1) (((i + 1 : Nat) : Int)) hs6 rfl (wadd (a := i) (b := 1) (by omega)) ?_)
  refine W1 (OpT.move (ni (i + 1)) rfl ?_)
  refine WL.nil ?_
  rw [show (addVars (addVars l ((y.head.take i).flatMap (fun a : Agr => [a.term]))) [x12.term]) = addVars l ((y.head.take (i + 1)).flatMap (fun a : Agr => [a.term])) from addVars_step (fun a : Agr => [a.term]) hx12 l] at st20
  exact loopQ_n _ (by omega) ⟨i + 1, lv17, rfl, by omega, rfl, hs7, hs8, hs9, st20⟩
 refine WC.exit ?_
 refine thenQ_x ?_
 refine loopQ_x ?_
 refine blkQ_hit ?_
 refine thenQ_n ?_
 refine Wsr ?_
 refine W1 (OpT.move (.pointer (some ad)) hs8 ?_)
 refine W1 (OpT.nilc ad rfl ?_)
 refine W1 (OpT.field 2 ad (ad.add 2) tf54_2 rfl rfl ?_)
 refine W1 (OpT.loadS (ad.add 2) bv ta52 rfl (hr.cell st4 (j := 2) rfl) ?_)
 refine W1 (OpT.lenR rfl tu52 hb rfl ?_)
 refine W1 (OpT.move (ii 0) rfl ?_)
 refine Wnt ?_
 refine WC.block ?_
 rw [addVars_all (fun a : Agr => [a.term]) ‹i ≤ y.head.length› h11 l] at st4
 refine WC.loop (fun m ρ wz => ∃ (j : Nat), ∃ (lv2 : Value), m = y.body.length - j ∧ j ≤ y.body.length ∧ ρ 39 = (ni j) ∧ ρ 1 = (.func (.func 91) #[] #[(pt tb 0), (pt lb 0)]) ∧ ρ 4 = (.pointer (some ad)) ∧ ρ 38 = (ni (y.body.length)) ∧ St Z w0 wz (Blk lb 37 [lv2] :: Blk tb 79 [(.map (some mb))] :: Row 9 1 lv2 (addVars (addVars l (y.head.flatMap (fun a : Agr => [a.term]))) ((y.body.take j).flatMap ltrT)).length ((addVars (addVars l (y.head.flatMap (fun a : Agr => [a.term]))) ((y.body.take j).flatMap ltrT)).map Value.string) :: Mp Value.string (Value.int .i64) mb (fm (addVars (addVars l (y.head.flatMap (fun a : Agr => [a.term]))) ((y.body.take j).flatMap ltrT))) :: L)) _ ⟨0, lv2, rfl, by omega, rfl, hs7, hs8, rfl, st4⟩ ?_
 rintro m21 ρ22 w23 ⟨j, lv2, hm30, hp25, hs26, hs27, hs28, hs29, st24⟩
 have hfl : ∀ x, y.body[j]? = some x → ((y.body.take j).flatMap ltrT).length + (ltrT x).length ≤ (y.body.flatMap ltrT).length := fun x hx => fl_le _ hx
 refine Wsr ?_
 refine W1 (OpT.ilt .i64 (((j : Nat) : Int)) (((y.body.length : Nat) : Int)) hs26 hs29 ?_)
 refine Wnt ?_
 refine WC.seq ?_
 refine WC.condP (((j : Nat) : Int) < ((y.body.length : Nat) : Int)) rfl (fun h31 => ?_) (fun h31 => ?_)
 ·refine WC.skip ?_
  refine thenQ_n ?_
  refine WC.seq ?_
  refine WC.block ?_
  refine Wsr ?_
  refine W1 (OpT.move (ni j) hs26 ?_)
  refine W1 (OpT.assign (ni j) rfl ?_)
  refine Wnr ?_
  refine W1 (OpT.move (.pointer (some ad)) hs28 ?_)
  refine W1 (OpT.nilc ad rfl ?_)
  refine W1 (OpT.field 2 ad (ad.add 2) tf54_2 rfl rfl ?_)
  refine W1 (OpT.loadS (ad.add 2) bv ta52 rfl (hr.cell st24 (j := 2) rfl) ?_)
  refine W1 (OpT.move (ni j) rfl ?_)
  obtain ⟨x32, hx32⟩ : ∃ x, (y.body)[j]? = some x := ⟨_, List.getElem?_eq_getElem (by omega)⟩
  refine W1 (OpT.idxX tu52 ts74 hb rfl .i64 (j) rfl hx32 (fun ad33 cs34 hr35 hR36 => ?_))
  have hR36c := hR36
  obtain ⟨av37, lk38, rk39, rfl, ha40, hl41, hr42⟩ := hR36
  refine W1 (OpT.makeIface (.pointer (some ad33)) ti125 rfl ?_)
  refine W1 (OpT.move (.func (.func 91) #[] #[(pt tb 0), (pt lb 0)]) hs27 ?_)
  refine W1 (OpT.callS cal90 [] [] [(.iface 125 (.pointer (some ad33))), (.func (.func 91) #[] #[(pt tb 0), (pt lb 0)])] rfl (ca2 rfl rfl) (walk_Ltr st24 x32 (by have := hfl _ hx32; have := addVars_len l (y.head.flatMap (fun a : Agr => [a.term])); have := addVars_len (addVars l (y.head.flatMap (fun a : Agr => [a.term]))) ((y.body.take j).flatMap ltrT); (try simp only [List.length_cons, List.length_nil] at *); omega) _ _ _ _ hr35 ha40 hl41 hr42) ?_)
  rintro v44 w45 ⟨rfl, lv43, st46⟩
  replace st46 : St Z w0 w45 (VS lb tb mb lv43 (addVars (addVars (addVars l (y.head.flatMap (fun a : Agr => [a.term]))) ((y.body.take j).flatMap ltrT)) (ltrT x32)) L) := st46
  refine WL.nil ?_
  refine blkQ_n ?_
  refine thenQ_n ?_
  refine WC.region ?_
  refine W1 (OpT.iadd .i64 (((j : Nat) : Int)) (1) (((j + 1 : Nat) : Int)) hs26 rfl (wadd (a := j) (b := 1) (by omega)) ?_)
  refine W1 (OpT.move (ni (j + 1)) rfl ?_)
  refine WL.nil ?_
  rw [show (addVars (addVars (addVars l (y.head.flatMap (fun a : Agr => [a.term]))) ((y.body.take j).flatMap ltrT)) (ltrT x32)) = addVars (addVars l (y.head.flatMap (fun a : Agr => [a.term]))) ((y.body.take (j + 1)).flatMap ltrT) from addVars_step ltrT hx32 (addVars l (y.head.flatMap (fun a : Agr => [a.term])))] at st46
  exact loopQ_n _ (by omega) ⟨j + 1, lv43, rfl, by omega, rfl, hs27, hs28, hs29, st46⟩
 refine WC.exit ?_
 refine thenQ_x ?_
 refine loopQ_x ?_
 refine blkQ_hit ?_
 refine blkQ_n ?_
 refine retQ.none (.inl rfl) ?_
 rw [addVars_all ltrT ‹j ≤ y.body.length› h31 (addVars l (y.head.flatMap (fun a : Agr => [a.term])))] at st24
 exact ⟨_, rfl, rfl, lv2, by rw [rulT, ← addVars_app]; exact st24⟩

end Go.Ped
set_option linter.unusedVariables false
set_option maxRecDepth 20000
namespace Go.Ped
open Go Go.Eng Go.RowKit Go.Proofs

theorem tz37 : zeroB Tryz.prog 37 = some (.slice none 0 0) := by kernel_rfl
theorem tz79 : zeroB Tryz.prog 79 = some (.map none) := by kernel_rfl
theorem ts79 : sizeB Tryz.prog 79 = some 1 := by kernel_rfl
theorem cal75 : CallOk Tryz.prog 75 := ⟨⟨Tryz.f75, Tryz.func75, rfl, by decide⟩⟩
theorem tf54_0 : fieldB Tryz.prog 54 0 = some 0 := by kernel_rfl
theorem tz102 : zeroB Tryz.prog 102 = some (.agg #[(.int .i8 (0)), (.string (⟨#[]⟩ : ByteArray)), (.int .i8 (0)), (.int .i64 (0)), (.string (⟨#[]⟩ : ByteArray))]) := by kernel_rfl
theorem cal87 : CallOk Tryz.prog 87 := ⟨⟨Tryz.f87, Tryz.func87, rfl, by decide⟩⟩
theorem ta74 : aggB Tryz.prog 74 = some true := by kernel_rfl
theorem tz74 : zeroB Tryz.prog 74 = some (.agg #[(.int .i8 (0)), (.string (⟨#[]⟩ : ByteArray)), (.slice none 0 0), (.int .i8 (0)), (.int .i8 (0)), (.string (⟨#[]⟩ : ByteArray)), (.int .i8 (0)), (.int .i64 (0)), (.string (⟨#[]⟩ : ByteArray)), (.slice none 0 0), (.int .i8 (0)), (.string (⟨#[]⟩ : ByteArray)), (.int .i8 (0)), (.int .i64 (0)), (.string (⟨#[]⟩ : ByteArray)), (.slice none 0 0)]) := by kernel_rfl
theorem cal88 : CallOk Tryz.prog 88 := ⟨⟨Tryz.f88, Tryz.func88, rfl, by decide⟩⟩
theorem cal47 : CallOk Tryz.prog 47 := ⟨⟨Tryz.f47, Tryz.func47, rfl, by decide⟩⟩
theorem vars_Atm {Z : Nat → Prop} {w0 w : World} {L : List Res} (st : St Z w0 w L) (y : Atm) (hl : (atmT y).length < 1073741824) (ad : Addr) (av : Value) (hr : RowZ Z w0 ad [(.string y.pred), av]) (ha : rTrm.sl Z w0 av y.args) : Calls Tryz.prog 75 #[(.iface 157 (.pointer (some ad)))] w (Ret fun r w' => St Z w0 w' (Row 9 1 r (addVars [] (atmT y)).length ((addVars [] (atmT y)).map Value.string) :: L)) := by
 refine calls_of_WC (m := 10) (rs := [.tmp 2]) Tryz.func75 rfl rfl rfl rfl ?_
 refine Wsr ?_
 refine W1 (OpT.assign vn rfl ?_)
 refine Wns ?_
 refine W1 (OpT.alloc st vn [vn] tz37 rfl (fun b1 w2 st3 => ?_))
 refine Wns ?_
 refine W1 (OpT.makeMap Value.string (Value.int .i64) st3 (fun b4 w5 st6 => ?_))
 refine W1 (OpT.alloc st6 (.map none) [(.map none)] tz79 rfl (fun b7 w8 st9 => ?_))
 refine WL.stepN (OpT.storeS st9 0 (.map (some b4)) rfl ts79 rfl rfl rfl rfl rfl (fun w10 st11 => ?_))
 refine Wns ?_
 refine W1 (OpT.move (.iface 157 (.pointer (some ad))) rfl ?_)
 refine W1 (OpT.makeFunc [] [(pt b7 0), (pt b1 0)] mk0 (mk2 rfl rfl) ?_)
 have st12 := st11.rowNil 9 1
 have st13 : St Z w0 w10 (VS b1 b7 b4 vn [] L) := (St.selT [Row 9 1 vn 0 [], Blk b7 79 [(.map (some b4))], (Mp Value.string (Value.int .i64) b4 ([] : List (ByteArray × Int))), Blk b1 37 [vn]] [3, 1, 0, 2] rfl (by decide) st12)
 refine W1 (OpT.callS cal90 [] [] [(.iface 157 (.pointer (some ad))), (.func (.func 91) #[] #[(pt b7 0), (pt b1 0)])] rfl (ca2 rfl rfl) (walk_Atm st13 y (by simp only [List.length_nil]; omega) _ _ hr ha) ?_)
 rintro v17 w18 ⟨rfl, lv14, st19⟩
 have o15 := st19.rowOne (i := 2) rfl
 have c16 := st19.rowCel (i := 2) rfl
 refine Wns ?_
 refine W1 (OpT.loadS ⟨b1, 0, none⟩ lv14 ta37 rfl (st19.cellB (i := 0) rfl rfl) ?_)
 refine W1 (OpT.assign lv14 rfl ?_)
 refine Wnt ?_
 refine WC.ret <| retQ.one lv14 rfl ?_
 exact ⟨_, rfl, (St.selT [Blk b1 37 [lv14], Blk b7 79 [(.map (some b4))], Row 9 1 lv14 (addVars [] (atmT y)).length ((addVars [] (atmT y)).map Value.string), Mp Value.string (Value.int .i64) b4 (fm (addVars [] (atmT y)))] [2] rfl (by decide) st19)⟩

theorem vars_Exp {Z : Nat → Prop} {w0 w : World} {L : List Res} (st : St Z w0 w L) (y : Exp) (hl : (expT y).length < 1073741824) (ad : Addr) (kv : Value) (hr : RowZ Z w0 ad [(.int .i8 (y.op)), (.string y.term.var), (.int .i8 (y.term.val.kind)), (.int .i64 (y.term.val.num)), (.string y.term.val.text), kv]) (hk : rExp.sl Z w0 kv y.kids) : Calls Tryz.prog 75 #[(.iface 158 (.pointer (some ad)))] w (Ret fun r w' => St Z w0 w' (Row 9 1 r (addVars [] (expT y)).length ((addVars [] (expT y)).map Value.string) :: L)) := by
 refine calls_of_WC (m := 10) (rs := [.tmp 2]) Tryz.func75 rfl rfl rfl rfl ?_
 refine Wsr ?_
 refine W1 (OpT.assign vn rfl ?_)
 refine Wns ?_
 refine W1 (OpT.alloc st vn [vn] tz37 rfl (fun b1 w2 st3 => ?_))
 refine Wns ?_
 refine W1 (OpT.makeMap Value.string (Value.int .i64) st3 (fun b4 w5 st6 => ?_))
 refine W1 (OpT.alloc st6 (.map none) [(.map none)] tz79 rfl (fun b7 w8 st9 => ?_))
 refine WL.stepN (OpT.storeS st9 0 (.map (some b4)) rfl ts79 rfl rfl rfl rfl rfl (fun w10 st11 => ?_))
 refine Wns ?_
 refine W1 (OpT.move (.iface 158 (.pointer (some ad))) rfl ?_)
 refine W1 (OpT.makeFunc [] [(pt b7 0), (pt b1 0)] mk0 (mk2 rfl rfl) ?_)
 have st12 := st11.rowNil 9 1
 have st13 : St Z w0 w10 (VS b1 b7 b4 vn [] L) := (St.selT [Row 9 1 vn 0 [], Blk b7 79 [(.map (some b4))], (Mp Value.string (Value.int .i64) b4 ([] : List (ByteArray × Int))), Blk b1 37 [vn]] [3, 1, 0, 2] rfl (by decide) st12)
 refine W1 (OpT.callS cal90 [] [] [(.iface 158 (.pointer (some ad))), (.func (.func 91) #[] #[(pt b7 0), (pt b1 0)])] rfl (ca2 rfl rfl) (walk_Exp st13 y (by simp only [List.length_nil]; omega) _ _ hr hk) ?_)
 rintro v17 w18 ⟨rfl, lv14, st19⟩
 have o15 := st19.rowOne (i := 2) rfl
 have c16 := st19.rowCel (i := 2) rfl
 refine Wns ?_
 refine W1 (OpT.loadS ⟨b1, 0, none⟩ lv14 ta37 rfl (st19.cellB (i := 0) rfl rfl) ?_)
 refine W1 (OpT.assign lv14 rfl ?_)
 refine Wnt ?_
 refine WC.ret <| retQ.one lv14 rfl ?_
 exact ⟨_, rfl, (St.selT [Blk b1 37 [lv14], Blk b7 79 [(.map (some b4))], Row 9 1 lv14 (addVars [] (expT y)).length ((addVars [] (expT y)).map Value.string), Mp Value.string (Value.int .i64) b4 (fm (addVars [] (expT y)))] [2] rfl (by decide) st19)⟩

theorem vars_Rul {Z : Nat → Prop} {w0 w : World} {L : List Res} (st : St Z w0 w L) (y : Rul) (hl : (rulT y).length < 1073741824) (ad : Addr) (av bv : Value) (hr : RowZ Z w0 ad [(.string y.pred), av, bv]) (ha : rAgr.sl Z w0 av y.head) (hb : rLtr.sl Z w0 bv y.body) : Calls Tryz.prog 75 #[(.iface 146 (.pointer (some ad)))] w (Ret fun r w' => St Z w0 w' (Row 9 1 r (addVars [] (rulT y)).length ((addVars [] (rulT y)).map Value.string) :: L)) := by
 refine calls_of_WC (m := 10) (rs := [.tmp 2]) Tryz.func75 rfl rfl rfl rfl ?_
 refine Wsr ?_
 refine W1 (OpT.assign vn rfl ?_)
 refine Wns ?_
 refine W1 (OpT.alloc st vn [vn] tz37 rfl (fun b1 w2 st3 => ?_))
 refine Wns ?_
 refine W1 (OpT.makeMap Value.string (Value.int .i64) st3 (fun b4 w5 st6 => ?_))
 refine W1 (OpT.alloc st6 (.map none) [(.map none)] tz79 rfl (fun b7 w8 st9 => ?_))
 refine WL.stepN (OpT.storeS st9 0 (.map (some b4)) rfl ts79 rfl rfl rfl rfl rfl (fun w10 st11 => ?_))
 refine Wns ?_
 refine W1 (OpT.move (.iface 146 (.pointer (some ad))) rfl ?_)
 refine W1 (OpT.makeFunc [] [(pt b7 0), (pt b1 0)] mk0 (mk2 rfl rfl) ?_)
 have st12 := st11.rowNil 9 1
 have st13 : St Z w0 w10 (VS b1 b7 b4 vn [] L) := (St.selT [Row 9 1 vn 0 [], Blk b7 79 [(.map (some b4))], (Mp Value.string (Value.int .i64) b4 ([] : List (ByteArray × Int))), Blk b1 37 [vn]] [3, 1, 0, 2] rfl (by decide) st12)
 refine W1 (OpT.callS cal90 [] [] [(.iface 146 (.pointer (some ad))), (.func (.func 91) #[] #[(pt b7 0), (pt b1 0)])] rfl (ca2 rfl rfl) (walk_Rul st13 y (by simp only [List.length_nil]; omega) _ _ _ hr ha hb) ?_)
 rintro v17 w18 ⟨rfl, lv14, st19⟩
 have o15 := st19.rowOne (i := 2) rfl
 have c16 := st19.rowCel (i := 2) rfl
 refine Wns ?_
 refine W1 (OpT.loadS ⟨b1, 0, none⟩ lv14 ta37 rfl (st19.cellB (i := 0) rfl rfl) ?_)
 refine W1 (OpT.assign lv14 rfl ?_)
 refine Wnt ?_
 refine WC.ret <| retQ.one lv14 rfl ?_
 exact ⟨_, rfl, (St.selT [Blk b1 37 [lv14], Blk b7 79 [(.map (some b4))], Row 9 1 lv14 (addVars [] (rulT y)).length ((addVars [] (rulT y)).map Value.string), Mp Value.string (Value.int .i64) b4 (fm (addVars [] (rulT y)))] [2] rfl (by decide) st19)⟩

theorem RuleVars_spec {Z : Nat → Prop} {w0 w : World} {L : List Res} (st : St Z w0 w L) (y : Rul) (hl : (rulT y).length < 1073741824) (av bv : Value) (ha : rAgr.sl Z w0 av y.head) (hb : rLtr.sl Z w0 bv y.body) : Calls Tryz.prog 47 #[(.agg #[(.string y.pred), av, bv])] w (Ret fun r w' => St Z w0 w' (Row 9 1 r (addVars [] (rulT y)).length ((addVars [] (rulT y)).map Value.string) :: L)) := by
 refine calls_of_WC (m := 5) (rs := [.tmp 2]) Tryz.func47 rfl rfl rfl rfl ?_
 refine Wsr ?_
 refine W1 (OpT.box st (.agg #[(.string y.pred), av, bv]) [(.string y.pred), av, bv] rfl rfl (fun b1 w2 st3 => ?_))
 refine W1 (OpT.assign vn rfl ?_)
 refine Wns ?_
 refine W1 (OpT.makeIface (pt b1 0) ti146 rfl ?_)
 obtain ⟨Z4, hz5, hw6, hr7, st9, bk8⟩ := (st3 : St Z w0 w2 (Blk b1 54 [(.string y.pred), av, bv] :: L)).freezeB
 refine W1 (OpT.callS cal75 [] [] [(.iface 146 (pt b1 0))] rfl (ca1 rfl) (vars_Rul st9 y (by omega) _ _ _ hr7 (Rl.sl_mono ha hz5 hw6) (Rl.sl_mono hb hz5 hw6)) ?_)
 rintro v12 w13 st14
 replace st14 := bk8 _ _ st14
 have o10 := st14.rowOne (i := 1) rfl
 have c11 := st14.rowCel (i := 1) rfl
 refine W1 (OpT.assign v12 rfl ?_)
 refine Wnt ?_
 refine WC.ret <| retQ.one v12 rfl ?_
 exact ⟨_, rfl, (St.selT [Blk b1 54 [(.string y.pred), av, bv], Row 9 1 v12 (addVars [] (rulT y)).length ((addVars [] (rulT y)).map Value.string)] [1] rfl (by decide) st14)⟩

theorem AtomVars_spec {Z : Nat → Prop} {w0 w : World} {L : List Res} (st : St Z w0 w L) (y : Atm) (hl : (atmT y).length < 1073741824) (av : Value) (ha : rTrm.sl Z w0 av y.args) : Calls Tryz.prog 69 #[(.agg #[(.string y.pred), av])] w (Ret fun r w' => St Z w0 w' (Row 9 1 r (addVars [] (atmT y)).length ((addVars [] (atmT y)).map Value.string) :: L)) := by
 refine calls_of_WC (m := 5) (rs := [.tmp 2]) Tryz.func69 rfl rfl rfl rfl ?_
 refine Wsr ?_
 refine W1 (OpT.box st (.agg #[(.string y.pred), av]) [(.string y.pred), av] rfl rfl (fun b1 w2 st3 => ?_))
 refine W1 (OpT.assign vn rfl ?_)
 refine Wns ?_
 refine W1 (OpT.makeIface (pt b1 0) ti157 rfl ?_)
 obtain ⟨Z4, hz5, hw6, hr7, st9, bk8⟩ := (st3 : St Z w0 w2 (Blk b1 62 [(.string y.pred), av] :: L)).freezeB
 refine W1 (OpT.callS cal75 [] [] [(.iface 157 (pt b1 0))] rfl (ca1 rfl) (vars_Atm st9 y (by omega) _ _ hr7 (Rl.sl_mono ha hz5 hw6)) ?_)
 rintro v12 w13 st14
 replace st14 := bk8 _ _ st14
 have o10 := st14.rowOne (i := 1) rfl
 have c11 := st14.rowCel (i := 1) rfl
 refine W1 (OpT.assign v12 rfl ?_)
 refine Wnt ?_
 refine WC.ret <| retQ.one v12 rfl ?_
 exact ⟨_, rfl, (St.selT [Blk b1 62 [(.string y.pred), av], Row 9 1 v12 (addVars [] (atmT y)).length ((addVars [] (atmT y)).map Value.string)] [1] rfl (by decide) st14)⟩

theorem ExprVars_spec {Z : Nat → Prop} {w0 w : World} {L : List Res} (st : St Z w0 w L) (y : Exp) (hl : (expT y).length < 1073741824) (kv : Value) (hk : rExp.sl Z w0 kv y.kids) : Calls Tryz.prog 71 #[(.agg #[(.int .i8 (y.op)), (.string y.term.var), (.int .i8 (y.term.val.kind)), (.int .i64 (y.term.val.num)), (.string y.term.val.text), kv])] w (Ret fun r w' => St Z w0 w' (Row 9 1 r (addVars [] (expT y)).length ((addVars [] (expT y)).map Value.string) :: L)) := by
 refine calls_of_WC (m := 5) (rs := [.tmp 2]) Tryz.func71 rfl rfl rfl rfl ?_
 refine Wsr ?_
 refine W1 (OpT.box st (.agg #[(.int .i8 (y.op)), (.string y.term.var), (.int .i8 (y.term.val.kind)), (.int .i64 (y.term.val.num)), (.string y.term.val.text), kv]) [(.int .i8 (y.op)), (.string y.term.var), (.int .i8 (y.term.val.kind)), (.int .i64 (y.term.val.num)), (.string y.term.val.text), kv] rfl rfl (fun b1 w2 st3 => ?_))
 refine W1 (OpT.assign vn rfl ?_)
 refine Wns ?_
 refine W1 (OpT.makeIface (pt b1 0) ti158 rfl ?_)
 obtain ⟨Z4, hz5, hw6, hr7, st9, bk8⟩ := (st3 : St Z w0 w2 (Blk b1 72 [(.int .i8 (y.op)), (.string y.term.var), (.int .i8 (y.term.val.kind)), (.int .i64 (y.term.val.num)), (.string y.term.val.text), kv] :: L)).freezeB
 refine W1 (OpT.callS cal75 [] [] [(.iface 158 (pt b1 0))] rfl (ca1 rfl) (vars_Exp st9 y (by omega) _ _ hr7 (Rl.sl_mono hk hz5 hw6)) ?_)
 rintro v12 w13 st14
 replace st14 := bk8 _ _ st14
 have o10 := st14.rowOne (i := 1) rfl
 have c11 := st14.rowCel (i := 1) rfl
 refine W1 (OpT.assign v12 rfl ?_)
 refine Wnt ?_
 refine WC.ret <| retQ.one v12 rfl ?_
 exact ⟨_, rfl, (St.selT [Blk b1 72 [(.int .i8 (y.op)), (.string y.term.var), (.int .i8 (y.term.val.kind)), (.int .i64 (y.term.val.num)), (.string y.term.val.text), kv], Row 9 1 v12 (addVars [] (expT y)).length ((addVars [] (expT y)).map Value.string)] [1] rfl (by decide) st14)⟩

def rulB (y : Rul) : Bool := nameB y.pred && (decide (y.head.length ≤ 24) && (decide (y.body.length ≤ 16) && (y.head.all agrB && (y.body.all ltrlB && decide ((addVars [] (rulT y)).length ≤ 24)))))
theorem rulB_head {y : Rul} {i : Nat} {x : Agr} (hx : y.head[i]? = some x) (h : agrB x = false) : rulB y = false := by
  have : y.head.all agrB = false := List.all_eq_false.2 ⟨x, List.mem_of_getElem? hx, by rw [h]; simp⟩
  simp [rulB, this]
theorem rulB_body {y : Rul} {i : Nat} {x : Ltr} (hx : y.body[i]? = some x) (h : ltrlB x = false) : rulB y = false := by
  have : y.body.all ltrlB = false := List.all_eq_false.2 ⟨x, List.mem_of_getElem? hx, by rw [h]; simp⟩
  simp [rulB, this]
theorem all_get {α : Type} (p : α → Bool) (xs : List α) (h : ∀ j x, j < xs.length → xs[j]? = some x → p x = true) : xs.all p = true := by
  rw [List.all_eq_true]
  intro x hx
  obtain ⟨j, hj, rfl⟩ := List.getElem_of_mem hx
  exact h j _ hj (List.getElem?_eq_getElem hj)
def Hid2 (p : Prop) : Prop := p
theorem CheckRule_spec {Z : Nat → Prop} {w0 w : World} {L : List Res} (st : St Z w0 w L) (y : Rul) (hl : (rulT y).length < 1073741824) (av bv : Value) (ha : rAgr.sl Z w0 av y.head) (hb : rLtr.sl Z w0 bv y.body) : Calls Tryz.prog 67 #[(.agg #[(.string y.pred), av, bv])] w (Ret fun r w' => r = .int .i64 (errn (rulB y) 40) ∧ St Z w0 w' L) := by
 have hal := Rl.sl_le ha
 have hbl := Rl.sl_le hb
 refine calls_of_WC (m := 53) (rs := [.tmp 2]) Tryz.func67 rfl rfl rfl rfl ?_
 refine Wsr ?_
 refine W1 (OpT.box st (.agg #[(.string y.pred), av, bv]) [(.string y.pred), av, bv] rfl rfl (fun b1 w2 st3 => ?_))
 refine W1 (OpT.assign (ii 0) rfl ?_)
 refine Wnt ?_
 refine WC.seq ?_
 refine Wsr ?_
 refine W1 (OpT.field 0 ⟨b1, 0, none⟩ ⟨b1, 0, none⟩ tf54_0 rfl rfl ?_)
 refine W1 (OpT.loadS ⟨b1, 0, none⟩ (.string y.pred) ta9 rfl (st3.cellB (i := 0) rfl rfl) ?_)
 refine W1 (OpT.callS cal86 [] [] [(.string y.pred)] rfl (ca1 rfl) (name_spec st3 y.pred) ?_)
 rintro v4 w5 ⟨rfl, st6⟩
 refine W1 (OpT.not (nameB y.pred) rfl ?_)
 refine W1 (OpT.move (.bool (!(nameB y.pred))) rfl ?_)
 by_cases h7 : (!(nameB y.pred)) = true
 ·refine WL.pass (dj := 12) (c := true) rfl rfl rfl (congrArg Value.bool h7) rfl ?_
  refine WL.pass (dj := 12) (c := true) rfl rfl rfl (congrArg Value.bool h7) rfl ?_
  refine WL.pass (dj := 12) (c := true) rfl rfl rfl (congrArg Value.bool h7) rfl ?_
  refine WL.pass (dj := 12) (c := true) rfl rfl rfl (congrArg Value.bool h7) rfl ?_
  refine W1 (OpT.pickT (.bool true) (congrArg Value.bool h7) rfl ?_)
  refine W1 (OpT.move (.bool true) rfl ?_)
  refine WL.pass (dj := 18) (c := true) rfl rfl rfl rfl rfl ?_
  refine WL.pass (dj := 18) (c := true) rfl rfl rfl rfl rfl ?_
  refine WL.pass (dj := 18) (c := true) rfl rfl rfl rfl rfl ?_
  refine WL.pass (dj := 18) (c := true) rfl rfl rfl rfl rfl ?_
  refine W1 (OpT.pickT (.bool true) rfl rfl ?_)
  refine Wnt ?_
  refine WC.condT rfl ?_
  refine Wsr ?_
  refine W1 (OpT.assign (ii 40) rfl ?_)
  refine Wnt ?_
  refine WC.ret <| thenQ_r <| retQ.one (ii 40) rfl ?_
  exact ⟨_, rfl, by rw [show rulB y = false from Bool.eq_false_iff.2 (fun hq => by simp only [rulB, Bool.and_eq_true, decide_eq_true_eq] at hq; obtain ⟨q1, q2, q3, q4, q5, q6⟩ := hq; first | omega | simp_all)]; rfl, (St.selT [Blk b1 54 [(.string y.pred), av, bv]] [] rfl (by decide) st6)⟩
 have h7 := Bool.eq_false_iff.2 h7
 refine W2 (dj := 12) (congrArg Value.bool h7) (OpT.field 1 ⟨b1, 0, none⟩ ⟨b1, 1, none⟩ tf54_1 rfl rfl ?_)
 refine W2 (dj := 12) (congrArg Value.bool h7) (OpT.loadS ⟨b1, 1, none⟩ av ta51 rfl (st6.cellB (i := 0) rfl rfl) ?_)
 refine W2 (dj := 12) (congrArg Value.bool h7) (OpT.lenR rfl tu51 ha rfl ?_)
 refine W2 (dj := 12) (congrArg Value.bool h7) (OpT.igt .i64 (((y.head.length : Nat) : Int)) (24) rfl rfl ?_)
 refine W1 (OpT.pickF (.bool (decide (24 < ((y.head.length : Nat) : Int)))) (congrArg Value.bool h7) rfl ?_)
 refine W1 (OpT.move (.bool (decide (24 < ((y.head.length : Nat) : Int)))) rfl ?_)
 by_cases h8 : 24 < ((y.head.length : Nat) : Int)
 ·refine WL.pass (dj := 18) (c := true) rfl rfl rfl (bT h8) rfl ?_
  refine WL.pass (dj := 18) (c := true) rfl rfl rfl (bT h8) rfl ?_
  refine WL.pass (dj := 18) (c := true) rfl rfl rfl (bT h8) rfl ?_
  refine WL.pass (dj := 18) (c := true) rfl rfl rfl (bT h8) rfl ?_
  refine W1 (OpT.pickT (.bool true) (bT h8) rfl ?_)
  refine Wnt ?_
  refine WC.condT rfl ?_
  refine Wsr ?_
  refine W1 (OpT.assign (ii 40) rfl ?_)
  refine Wnt ?_
  refine WC.ret <| thenQ_r <| retQ.one (ii 40) rfl ?_
  exact ⟨_, rfl, by rw [show rulB y = false from Bool.eq_false_iff.2 (fun hq => by simp only [rulB, Bool.and_eq_true, decide_eq_true_eq] at hq; obtain ⟨q1, q2, q3, q4, q5, q6⟩ := hq; first | omega | simp_all)]; rfl, (St.selT [Blk b1 54 [(.string y.pred), av, bv]] [] rfl (by decide) st6)⟩
 refine W2 (dj := 18) (bF h8) (OpT.field 2 ⟨b1, 0, none⟩ ⟨b1, 2, none⟩ tf54_2 rfl rfl ?_)
 refine W2 (dj := 18) (bF h8) (OpT.loadS ⟨b1, 2, none⟩ bv ta52 rfl (st6.cellB (i := 0) rfl rfl) ?_)
 refine W2 (dj := 18) (bF h8) (OpT.lenR rfl tu52 hb rfl ?_)
 refine W2 (dj := 18) (bF h8) (OpT.igt .i64 (((y.body.length : Nat) : Int)) (16) rfl rfl ?_)
 refine W1 (OpT.pickF (.bool (decide (16 < ((y.body.length : Nat) : Int)))) (bF h8) rfl ?_)
 refine Wnt ?_
 refine WC.condP (16 < ((y.body.length : Nat) : Int)) rfl (fun h9 => ?_) (fun h9 => ?_)
 ·refine WC.seq ?_
  refine WC.region ?_
  refine W1 (OpT.assign (ii 40) rfl ?_)
  refine Wnt ?_
  refine WC.ret <| thenQ_r <| retQ.one (ii 40) rfl ?_
  exact ⟨_, rfl, by rw [show rulB y = false from Bool.eq_false_iff.2 (fun hq => by simp only [rulB, Bool.and_eq_true, decide_eq_true_eq] at hq; obtain ⟨q1, q2, q3, q4, q5, q6⟩ := hq; first | omega | simp_all)]; rfl, (St.selT [Blk b1 54 [(.string y.pred), av, bv]] [] rfl (by decide) st6)⟩
 refine WC.skip ?_
 refine thenQ_n ?_
 refine WC.seq ?_
 refine Wsr ?_
 refine W1 (OpT.field 1 ⟨b1, 0, none⟩ ⟨b1, 1, none⟩ tf54_1 rfl rfl ?_)
 refine W1 (OpT.loadS ⟨b1, 1, none⟩ av ta51 rfl (st6.cellB (i := 0) rfl rfl) ?_)
 refine W1 (OpT.lenR rfl tu51 ha rfl ?_)
 refine W1 (OpT.move (ii 0) rfl ?_)
 refine Wnt ?_
 refine WC.block ?_
 refine WC.loop (fun m ρ wz => ∃ (i : Nat), m = y.head.length - i ∧ i ≤ y.head.length ∧ Hid (∀ (j : Nat) x, j < i → y.head[j]? = some x → agrB x = true) ∧ ρ 27 = (ni i) ∧ ρ 1 = (pt b1 0) ∧ ρ 25 = av ∧ ρ 26 = (ni (y.head.length)) ∧ St Z w0 wz (Blk b1 54 [(.string y.pred), av, bv] :: L)) _ ⟨0, rfl, by omega, fun j x hj => absurd hj (Nat.not_lt_zero _), rfl, rfl, rfl, rfl, st6⟩ ?_
 rintro m10 ρ11 w12 ⟨i, hm19, hp14, HPi, hs15, hs16, hs17, hs18, st13⟩
 refine Wsr ?_
 refine W1 (OpT.ilt .i64 (((i : Nat) : Int)) (((y.head.length : Nat) : Int)) hs15 hs18 ?_)
 refine Wnt ?_
 refine WC.seq ?_
 refine WC.condP (((i : Nat) : Int) < ((y.head.length : Nat) : Int)) rfl (fun h20 => ?_) (fun h20 => ?_)
 ·refine WC.skip ?_
  refine thenQ_n ?_
  refine WC.seq ?_
  refine WC.block ?_
  refine Wsr ?_
  obtain ⟨x21, hx21⟩ : ∃ x, (y.head)[i]? = some x := ⟨_, List.getElem?_eq_getElem (by omega)⟩
  refine W1 (OpT.idxX tu51 ts102 ha hs17 .i64 (i) hs15 hx21 (fun ad22 cs23 hr24 hR25 => ?_))
  have hR25c := hR25
  obtain rfl := hR25
  refine W1 (OpT.loadA ad22 5 [(.int .i8 (x21.agg)), (.string x21.term.var), (.int .i8 (x21.term.val.kind)), (.int .i64 (x21.term.val.num)), (.string x21.term.val.text)] ta102 ts102 rfl ((hr24.at st13).part 0 5) rfl ?_)
  refine W1 (OpT.alloc st13 (.agg #[(.int .i8 (0)), ve, (.int .i8 (0)), (ii 0), ve]) [(.int .i8 (0)), ve, (.int .i8 (0)), (ii 0), ve] tz102 rfl (fun b26 w27 st28 => ?_))
  refine WL.stepN (OpT.storeA st28 0 5 [(.int .i8 (x21.agg)), (.string x21.term.var), (.int .i8 (x21.term.val.kind)), (.int .i64 (x21.term.val.num)), (.string x21.term.val.text)] rfl ts102 rfl rfl rfl rfl rfl (fun w29 st30 => ?_))
  refine Wns ?_
  refine W1 (OpT.loadA ⟨b26, 0, none⟩ 5 [(.int .i8 (x21.agg)), (.string x21.term.var), (.int .i8 (x21.term.val.kind)), (.int .i64 (x21.term.val.num)), (.string x21.term.val.text)] ta102 ts102 rfl ((st30.rowB (i := 0) rfl).part 0 5) rfl ?_)
  refine W1 (OpT.callS cal87 [] [] [(.agg #[(.int .i8 (x21.agg)), (.string x21.term.var), (.int .i8 (x21.term.val.kind)), (.int .i64 (x21.term.val.num)), (.string x21.term.val.text)])] rfl (ca1 rfl) (argument_spec st30 x21) ?_)
  rintro v31 w32 ⟨rfl, st33⟩
  refine W1 (OpT.not (agrB x21) rfl ?_)
  refine Wnt ?_
  refine WC.cond ((!(agrB x21))) rfl (fun h34 => ?_) (fun h34 => ?_)
  ·refine WC.seq ?_
   refine WC.region ?_
   refine W1 (OpT.assign (ii 40) rfl ?_)
   refine Wnt ?_
   refine WC.ret <| blkQ_r <| thenQ_r <| loopQ_r <| blkQ_r <| thenQ_r <| retQ.one (ii 40) rfl ?_
   exact ⟨_, rfl, by rw [rulB_head hx21 (by simp_all)]; rfl, (St.selT [Blk b26 102 [(.int .i8 (x21.agg)), (.string x21.term.var), (.int .i8 (x21.term.val.kind)), (.int .i64 (x21.term.val.num)), (.string x21.term.val.text)], Blk b1 54 [(.string y.pred), av, bv]] [] rfl (by decide) st33)⟩
  refine WC.skip ?_
  refine blkQ_n ?_
  refine thenQ_n ?_
  refine WC.region ?_
  refine W1 (OpT.iadd .i64 (((i : Nat) : Int)) (1) (((i + 1 : Nat) : Int)) hs15 rfl (wadd (a := i) (b := 1) (by omega)) ?_)
  refine W1 (OpT.move (ni (i + 1)) rfl ?_)
  refine WL.nil ?_
  have st35 : St Z w0 w32 (Blk b1 54 [(.string y.pred), av, bv] :: L) := St.selT [Blk b26 102 [(.int .i8 (x21.agg)), (.string x21.term.var), (.int .i8 (x21.term.val.kind)), (.int .i64 (x21.term.val.num)), (.string x21.term.val.text)], Blk b1 54 [(.string y.pred), av, bv]] [1] rfl (by decide) st33
  exact loopQ_n _ (by omega) ⟨i + 1, rfl, by omega, fun j x hj hx => by
        rcases Nat.lt_succ_iff_lt_or_eq.1 hj with hj | rfl
        · exact HPi.out j x hj hx
        · rw [hx21] at hx; cases hx; simp_all, rfl, hs16, hs17, hs18, st35⟩
 refine WC.exit ?_
 refine thenQ_x ?_
 refine loopQ_x ?_
 refine blkQ_hit ?_
 refine thenQ_n ?_
 refine WC.seq ?_
 refine Wsr ?_
 refine W1 (OpT.field 2 ⟨b1, 0, none⟩ ⟨b1, 2, none⟩ tf54_2 hs16 rfl ?_)
 refine W1 (OpT.loadS ⟨b1, 2, none⟩ bv ta52 rfl (st13.cellB (i := 0) rfl rfl) ?_)
 refine W1 (OpT.lenR rfl tu52 hb rfl ?_)
 refine W1 (OpT.move (ii 0) rfl ?_)
 refine Wnt ?_
 refine WC.block ?_
 refine WC.loop (fun m ρ wz => ∃ (k : Nat), m = y.body.length - k ∧ k ≤ y.body.length ∧ Hid (∀ (j : Nat) x, j < k → y.body[j]? = some x → ltrlB x = true) ∧ ρ 38 = (ni k) ∧ ρ 1 = (pt b1 0) ∧ ρ 36 = bv ∧ ρ 37 = (ni (y.body.length)) ∧ St Z w0 wz (Blk b1 54 [(.string y.pred), av, bv] :: L)) _ ⟨0, rfl, by omega, fun j x hj => absurd hj (Nat.not_lt_zero _), rfl, hs16, rfl, rfl, st13⟩ ?_
 rintro m36 ρ37 w38 ⟨k, hm45, hp40, HPk, hs41, hs42, hs43, hs44, st39⟩
 refine Wsr ?_
 refine W1 (OpT.ilt .i64 (((k : Nat) : Int)) (((y.body.length : Nat) : Int)) hs41 hs44 ?_)
 refine Wnt ?_
 refine WC.seq ?_
 refine WC.condP (((k : Nat) : Int) < ((y.body.length : Nat) : Int)) rfl (fun h46 => ?_) (fun h46 => ?_)
 ·refine WC.skip ?_
  refine thenQ_n ?_
  refine WC.seq ?_
  refine WC.block ?_
  refine Wsr ?_
  obtain ⟨x47, hx47⟩ : ∃ x, (y.body)[k]? = some x := ⟨_, List.getElem?_eq_getElem (by omega)⟩
  refine W1 (OpT.idxX tu52 ts74 hb hs43 .i64 (k) hs41 hx47 (fun ad48 cs49 hr50 hR51 => ?_))
  have hR51c := hR51
  obtain ⟨av52, lk53, rk54, rfl, ha55, hl56, hr57⟩ := hR51
  refine W1 (OpT.loadA ad48 16 [(.int .i8 (x47.kind)), (.string x47.atom.pred), av52, (.int .i8 (x47.rel)), (.int .i8 (x47.left.op)), (.string x47.left.term.var), (.int .i8 (x47.left.term.val.kind)), (.int .i64 (x47.left.term.val.num)), (.string x47.left.term.val.text), lk53, (.int .i8 (x47.right.op)), (.string x47.right.term.var), (.int .i8 (x47.right.term.val.kind)), (.int .i64 (x47.right.term.val.num)), (.string x47.right.term.val.text), rk54] ta74 ts74 rfl ((hr50.at st39).part 0 16) rfl ?_)
  refine W1 (OpT.alloc st39 (.agg #[(.int .i8 (0)), ve, vn, (.int .i8 (0)), (.int .i8 (0)), ve, (.int .i8 (0)), (ii 0), ve, vn, (.int .i8 (0)), ve, (.int .i8 (0)), (ii 0), ve, vn]) [(.int .i8 (0)), ve, vn, (.int .i8 (0)), (.int .i8 (0)), ve, (.int .i8 (0)), (ii 0), ve, vn, (.int .i8 (0)), ve, (.int .i8 (0)), (ii 0), ve, vn] tz74 rfl (fun b58 w59 st60 => ?_))
  refine WL.stepN (OpT.storeA st60 0 16 [(.int .i8 (x47.kind)), (.string x47.atom.pred), av52, (.int .i8 (x47.rel)), (.int .i8 (x47.left.op)), (.string x47.left.term.var), (.int .i8 (x47.left.term.val.kind)), (.int .i64 (x47.left.term.val.num)), (.string x47.left.term.val.text), lk53, (.int .i8 (x47.right.op)), (.string x47.right.term.var), (.int .i8 (x47.right.term.val.kind)), (.int .i64 (x47.right.term.val.num)), (.string x47.right.term.val.text), rk54] rfl ts74 rfl rfl (aC rfl (aC rfl (aC (Rl.sl_one ha55) (aC rfl (aC rfl (aC rfl (aC rfl (aC rfl (aC rfl (aC (Rl.sl_one hl56) (aC rfl (aC rfl (aC rfl (aC rfl (aC rfl (aC (Rl.sl_one hr57) aN)))))))))))))))) rfl rfl (fun w61 st62 => ?_))
  refine Wns ?_
  refine W1 (OpT.loadA ⟨b58, 0, none⟩ 16 [(.int .i8 (x47.kind)), (.string x47.atom.pred), av52, (.int .i8 (x47.rel)), (.int .i8 (x47.left.op)), (.string x47.left.term.var), (.int .i8 (x47.left.term.val.kind)), (.int .i64 (x47.left.term.val.num)), (.string x47.left.term.val.text), lk53, (.int .i8 (x47.right.op)), (.string x47.right.term.var), (.int .i8 (x47.right.term.val.kind)), (.int .i64 (x47.right.term.val.num)), (.string x47.right.term.val.text), rk54] ta74 ts74 rfl ((st62.rowB (i := 0) rfl).part 0 16) rfl ?_)
  refine W1 (OpT.callS cal88 [] [] [(.agg #[(.int .i8 (x47.kind)), (.string x47.atom.pred), av52, (.int .i8 (x47.rel)), (.int .i8 (x47.left.op)), (.string x47.left.term.var), (.int .i8 (x47.left.term.val.kind)), (.int .i64 (x47.left.term.val.num)), (.string x47.left.term.val.text), lk53, (.int .i8 (x47.right.op)), (.string x47.right.term.var), (.int .i8 (x47.right.term.val.kind)), (.int .i64 (x47.right.term.val.num)), (.string x47.right.term.val.text), rk54])] rfl (ca1 rfl) (CheckLiteral_spec st62 x47 _ _ _ ha55 hl56 hr57) ?_)
  rintro v63 w64 ⟨rfl, st65⟩
  refine W1 (OpT.assign (.int .i64 (errn (ltrlB x47) 40)) rfl ?_)
  refine Wns ?_
  refine W1 (OpT.move (.int .i64 (errn (ltrlB x47) 40)) rfl ?_)
  refine W1 (OpT.ine .i64 (errn (ltrlB x47) 40) (0) rfl rfl ?_)
  refine Wnt ?_
  refine WC.condP ((errn (ltrlB x47) 40) ≠ 0) rfl (fun h66 => ?_) (fun h66 => ?_)
  ·have h66b := errn_ne _ h66
   refine Wsr ?_
   refine W1 (OpT.move (.int .i64 (errn (ltrlB x47) 40)) rfl ?_)
   refine W1 (OpT.assign (.int .i64 (errn (ltrlB x47) 40)) rfl ?_)
   refine Wnt ?_
   refine WC.ret <| blkQ_r <| thenQ_r <| loopQ_r <| blkQ_r <| thenQ_r <| retQ.one (.int .i64 (errn (ltrlB x47) 40)) rfl ?_
   exact ⟨_, rfl, by rw [rulB_body hx47 (by simp_all), show ltrlB x47 = false from by simp_all], (St.selT [Blk b58 74 [(.int .i8 (x47.kind)), (.string x47.atom.pred), av52, (.int .i8 (x47.rel)), (.int .i8 (x47.left.op)), (.string x47.left.term.var), (.int .i8 (x47.left.term.val.kind)), (.int .i64 (x47.left.term.val.num)), (.string x47.left.term.val.text), lk53, (.int .i8 (x47.right.op)), (.string x47.right.term.var), (.int .i8 (x47.right.term.val.kind)), (.int .i64 (x47.right.term.val.num)), (.string x47.right.term.val.text), rk54], Blk b1 54 [(.string y.pred), av, bv]] [] rfl (by decide) st65)⟩
  have h66b := errn_eq _ h66
  refine WC.skip ?_
  refine blkQ_n ?_
  refine thenQ_n ?_
  refine WC.region ?_
  refine W1 (OpT.iadd .i64 (((k : Nat) : Int)) (1) (((k + 1 : Nat) : Int)) hs41 rfl (wadd (a := k) (b := 1) (by omega)) ?_)
  refine W1 (OpT.move (ni (k + 1)) rfl ?_)
  refine WL.nil ?_
  have st67 : St Z w0 w64 (Blk b1 54 [(.string y.pred), av, bv] :: L) := St.selT [Blk b58 74 [(.int .i8 (x47.kind)), (.string x47.atom.pred), av52, (.int .i8 (x47.rel)), (.int .i8 (x47.left.op)), (.string x47.left.term.var), (.int .i8 (x47.left.term.val.kind)), (.int .i64 (x47.left.term.val.num)), (.string x47.left.term.val.text), lk53, (.int .i8 (x47.right.op)), (.string x47.right.term.var), (.int .i8 (x47.right.term.val.kind)), (.int .i64 (x47.right.term.val.num)), (.string x47.right.term.val.text), rk54], Blk b1 54 [(.string y.pred), av, bv]] [1] rfl (by decide) st65
  exact loopQ_n _ (by omega) ⟨k + 1, rfl, by omega, fun j x hj hx => by
        rcases Nat.lt_succ_iff_lt_or_eq.1 hj with hj | rfl
        · exact HPk.out j x hj hx
        · rw [hx47] at hx; cases hx; simp_all, rfl, hs42, hs43, hs44, st67⟩
 refine WC.exit ?_
 refine thenQ_x ?_
 refine loopQ_x ?_
 refine blkQ_hit ?_
 refine thenQ_n ?_
 refine Wsr ?_
 refine W1 (OpT.loadA ⟨b1, 0, none⟩ 3 [(.string y.pred), av, bv] ta54 ts54 hs42 ((st39.rowB (i := 0) rfl).part 0 3) rfl ?_)
 refine W1 (OpT.callS cal47 [] [] [(.agg #[(.string y.pred), av, bv])] rfl (ca1 rfl) (RuleVars_spec st39 y (by omega) _ _ ha hb) ?_)
 rintro v70 w71 st72
 have o68 := st72.rowOne (i := 0) rfl
 have c69 := st72.rowCel (i := 0) rfl
 refine W1 (OpT.lenRow st72 0 rfl rfl tu37 rfl ?_)
 refine W1 (OpT.ile .i64 ((((addVars [] (rulT y)).length : Nat) : Int)) (24) rfl rfl ?_)
 refine W1 (OpT.callS cal89 [] [] [(.bool (decide ((((addVars [] (rulT y)).length : Nat) : Int) ≤ 24)))] rfl (ca1 rfl) (code_spec st72 (decide ((((addVars [] (rulT y)).length : Nat) : Int) ≤ 24))) ?_)
 rintro v73 w74 ⟨rfl, st75⟩
 refine W1 (OpT.assign (.int .i64 (errn (decide ((((addVars [] (rulT y)).length : Nat) : Int) ≤ 24)) 40)) rfl ?_)
 refine Wnt ?_
 refine WC.ret <| retQ.one (.int .i64 (errn (decide ((((addVars [] (rulT y)).length : Nat) : Int) ≤ 24)) 40)) rfl ?_
 exact ⟨_, rfl, by rw [show rulB y = decide (((addVars [] (rulT y)).length : Int) ≤ 24) from by have e1 : nameB y.pred = true := (by first | assumption | (have q : (!nameB y.pred) = false := ‹_›; simpa using q)); have e3 : decide (y.head.length ≤ 24) = true := decide_eq_true (by omega); have e4 : decide (y.body.length ≤ 16) = true := decide_eq_true (by omega); rw [rulB, e1, e3, e4, all_get agrB _ (fun j x hj hx => HPi.out j x (by omega) hx), all_get ltrlB _ (fun j x hj hx => HPk.out j x (by omega) hx)]; simp only [Bool.true_and]; rw [Bool.eq_iff_iff]; simp only [decide_eq_true_eq]; omega], (St.selT [Row 9 1 v70 (addVars [] (rulT y)).length ((addVars [] (rulT y)).map Value.string), Blk b1 54 [(.string y.pred), av, bv]] [] rfl (by decide) st75)⟩

end Go.Ped
set_option linter.unusedVariables false
set_option maxRecDepth 20000
namespace Go.Ped
open Go Go.Eng Go.RowKit Go.Proofs

theorem tf133_1 : fieldB Tryz.prog 133 1 = some 1 := by kernel_rfl
theorem cal74 : CallOk Tryz.prog 74 := ⟨⟨Tryz.f74, Tryz.func74, rfl, by decide⟩⟩
theorem tf133_0 : fieldB Tryz.prog 133 0 = some 0 := by kernel_rfl
abbrev FS (fb mb : Nat) (lv : Value) (l : List ByteArray) (L : List Res) : List Res := Blk fb 133 [lv, (.map (some mb))] :: Row 9 1 lv l.length (l.map Value.string) :: Mp Value.string (Value.int .i64) mb (fm l) :: L
def addNew (l : List ByteArray) (v : ByteArray) : List ByteArray := if v ∈ l then l else l ++ [v]
def addNews (l xs : List ByteArray) : List ByteArray := xs.foldl addNew l
def subB (xs l : List ByteArray) : Bool := xs.all fun x => decide (x ∈ l)
theorem addNews_in {l xs : List ByteArray} {i : Nat} {x : ByteArray} (hx : xs[i]? = some x) (h : x ∈ addNews l (xs.take i)) : addNews l (xs.take (i + 1)) = addNews l (xs.take i) := by
  rw [List.take_add_one, hx, addNews, List.foldl_append]
  exact if_pos h
theorem addNews_new {l xs : List ByteArray} {i : Nat} {x : ByteArray} (hx : xs[i]? = some x) (h : ¬ x ∈ addNews l (xs.take i)) : addNews l (xs.take (i + 1)) = addNews l (xs.take i) ++ [x] := by
  rw [List.take_add_one, hx, addNews, List.foldl_append]
  exact if_neg h
theorem addNews_len (l xs : List ByteArray) : (addNews l xs).length ≤ l.length + xs.length := by
  unfold addNews
  induction xs generalizing l with
  | nil => simp
  | cons x xs ih =>
    have h := ih (addNew l x)
    have h2 : (addNew l x).length ≤ l.length + 1 := by unfold addNew; split <;> simp
    simp only [List.foldl_cons, List.length_cons]; omega
theorem has_spec {Z : Nat → Prop} {w0 w : World} {L : List Res} {fb mb : Nat} {lv : Value} {l : List ByteArray} (st : St Z w0 w (FS fb mb lv l L)) (v : ByteArray) : Calls Tryz.prog 74 #[(pt fb 0), (.string v)] w (Ret fun r w' => r = .bool (decide (v ∈ l)) ∧ St Z w0 w' (FS fb mb lv l L)) := by
 have olv := st.rowOne (i := 1) rfl
 have clv := st.rowCel (i := 1) rfl
 refine calls_of_WC (m := 12) (rs := [.tmp 4]) Tryz.func74 rfl rfl rfl rfl ?_
 refine Wsr ?_
 refine W1 (OpT.assign (.bool false) rfl ?_)
 refine Wns ?_
 refine W1 (OpT.move (pt fb 0) rfl ?_)
 refine W1 (OpT.nilc ⟨fb, 0, none⟩ rfl ?_)
 refine W1 (OpT.field 1 ⟨fb, 0, none⟩ ⟨fb, 1, none⟩ tf133_1 rfl rfl ?_)
 refine W1 (OpT.loadS ⟨fb, 1, none⟩ (.map (some mb)) ta79 rfl (st.cellB (i := 0) rfl rfl) ?_)
 refine W1 (OpT.move (.string v) rfl ?_)
 refine W1 (OpT.lookupI st 2 rfl ko9 tu79 tz3 (v) rfl rfl ?_)
 refine W1 (OpT.igt .i64 (((mget (fm l) v).getD 0)) (0) rfl rfl ?_)
 refine W1 (OpT.assign (.bool (decide (0 < ((mget (fm l) v).getD 0)))) rfl ?_)
 refine Wnt ?_
 refine WC.ret <| retQ.one (.bool (decide (0 < ((mget (fm l) v).getD 0)))) rfl ?_
 exact ⟨_, rfl, congrArg Value.bool (decide_eq_decide.2 (fm_pos l v)), st⟩

theorem add_spec {Z : Nat → Prop} {w0 w : World} {L : List Res} {fb mb : Nat} {lv : Value} {l : List ByteArray} (st : St Z w0 w (FS fb mb lv l L)) (v : Value) (xs : List ByteArray) (hv : rStr.sl Z w0 v xs) (hb : l.length + xs.length < 1073741824) : Calls Tryz.prog 68 #[(pt fb 0), v] w (Ret fun r w' => r = .tuple #[] ∧ ∃ lv', St Z w0 w' (FS fb mb lv' (addNews l xs) L)) := by
 have olv := st.rowOne (i := 1) rfl
 have clv := st.rowCel (i := 1) rfl
 refine calls_of_WC (m := 37) (rs := []) Tryz.func68 rfl rfl rfl rfl ?_
 refine Wsr ?_
 refine W1 (OpT.move v rfl ?_)
 refine W1 (OpT.lenR rfl tu37 hv rfl ?_)
 refine W1 (OpT.move (ii 0) rfl ?_)
 refine Wnt ?_
 refine WC.block ?_
 refine WC.loop (fun m ρ wz => ∃ (i : Nat), ∃ (lv2 : Value), m = xs.length - i ∧ i ≤ xs.length ∧ ρ 8 = (ni i) ∧ ρ 0 = (pt fb 0) ∧ ρ 6 = v ∧ ρ 7 = (ni (xs.length)) ∧ St Z w0 wz (Blk fb 133 [lv2, (.map (some mb))] :: Row 9 1 lv2 (addNews l (xs.take i)).length ((addNews l (xs.take i)).map Value.string) :: Mp Value.string (Value.int .i64) mb (fm (addNews l (xs.take i))) :: L)) _ ⟨0, lv, rfl, by omega, rfl, rfl, rfl, rfl, st⟩ ?_
 rintro m1 ρ2 w3 ⟨i, lv2, hm10, hp5, hs6, hs7, hs8, hs9, st4⟩
 have olv2 := st4.rowOne (i := 1) rfl
 have clv2 := st4.rowCel (i := 1) rfl
 have hal := addNews_len l (xs.take i)
 have htk : (xs.take i).length ≤ xs.length := by rw [List.length_take]; omega
 refine Wsr ?_
 refine W1 (OpT.ilt .i64 (((i : Nat) : Int)) (((xs.length : Nat) : Int)) hs6 hs9 ?_)
 refine Wnt ?_
 refine WC.seq ?_
 refine WC.condP (((i : Nat) : Int) < ((xs.length : Nat) : Int)) rfl (fun h11 => ?_) (fun h11 => ?_)
 ·refine WC.skip ?_
  refine thenQ_n ?_
  refine WC.seq ?_
  refine WC.block ?_
  refine Wsr ?_
  obtain ⟨x12, hx12⟩ : ∃ x, (xs)[i]? = some x := ⟨_, List.getElem?_eq_getElem (by omega)⟩
  refine W1 (OpT.idxX tu37 ts9 hv hs8 .i64 (i) hs6 hx12 (fun ad13 cs14 hr15 hR16 => ?_))
  have hR16c := hR16
  obtain rfl := hR16
  refine W1 (OpT.loadS ad13 (.string x12) ta9 rfl (hr15.cell st4 (j := 0) rfl) ?_)
  refine W1 (OpT.assign (.string x12) rfl ?_)
  refine Wns ?_
  refine W1 (OpT.move (pt fb 0) hs7 ?_)
  refine W1 (OpT.move (.string x12) rfl ?_)
  refine W1 (OpT.callS cal74 [] [] [(pt fb 0), (.string x12)] rfl (ca2 rfl rfl) (has_spec st4 x12) ?_)
  rintro v17 w18 ⟨rfl, st19⟩
  refine W1 (OpT.notP (x12 ∈ (addNews l (xs.take i))) rfl ?_)
  refine Wnt ?_
  refine WC.condP (¬ (x12 ∈ (addNews l (xs.take i)))) rfl (fun h20 => ?_) (fun h20 => ?_)
  ·refine WC.seq ?_
   refine WC.region ?_
   refine W1 (OpT.move (pt fb 0) hs7 ?_)
   refine W1 (OpT.move (pt fb 0) hs7 ?_)
   refine W1 (OpT.nilc ⟨fb, 0, none⟩ rfl ?_)
   refine W1 (OpT.field 0 ⟨fb, 0, none⟩ ⟨fb, 0, none⟩ tf133_0 rfl rfl ?_)
   refine W1 (OpT.loadS ⟨fb, 0, none⟩ lv2 ta37 rfl (st19.cellB (i := 0) rfl rfl) ?_)
   refine W1 (OpT.move (.string x12) rfl ?_)
   refine W1 (OpT.buildSlice st19 [(0, (.string x12))] [(.string x12)] tu37 ts9 tz9 (mp1 rfl) (by kernel_rfl) (by decide) (fun b21 w22 st23 => ?_))
   have st24 : St Z w0 w22 (Blk b21 9 [(.string x12)] :: Row 9 1 lv2 (addNews l (xs.take i)).length ((addNews l (xs.take i)).map Value.string) :: Blk fb 133 [lv2, (.map (some mb))] :: Mp Value.string (Value.int .i64) mb (fm (addNews l (xs.take i))) :: L) := St.selT [Blk b21 9 [(.string x12)], Blk fb 133 [lv2, (.map (some mb))], Row 9 1 lv2 (addNews l (xs.take i)).length ((addNews l (xs.take i)).map Value.string), Mp Value.string (Value.int .i64) mb (fm (addNews l (xs.take i)))] [0, 2, 1, 3] rfl (by decide) st23
   refine W1 (OpT.append st24 1 tu37 ts9 tz9 rfl tb9 (by decide) rfl rfl rfl rfl (by omega) (by omega) (fun v25 w26 st27 hn28 => ?_))
   have o29 := st27.rowOne (i := 0) rfl
   have c30 := st27.rowCel (i := 0) rfl
   refine W1 (OpT.nilc ⟨fb, 0, none⟩ rfl ?_)
   refine W1 (OpT.field 0 ⟨fb, 0, none⟩ ⟨fb, 0, none⟩ tf133_0 rfl rfl ?_)
   refine WL.stepN (OpT.storeS st27 1 v25 rfl ts37 rfl rfl o29 c30 rfl (fun w31 st32 => ?_))
   refine Wnt ?_
   refine WC.draw 10 (fun jj vv => match jj with | 0 => vv = (pt fb 0) | 1 => vv = (pt fb 0) | 2 => vv = (pt fb 1) | 3 => vv = (.map (some mb)) | 4 => vv = (.string x12) | 5 => vv = (pt fb 0) | 6 => vv = (pt fb 0) | 7 => vv = (pt fb 0) | 8 => vv = v25 | 9 => vv = (.int .i64 (((((addNews l (xs.take i)).length + 1) : Nat) : Int))) | _ => True) (fun _ _ => []) st32 fmix (by kernel_rfl) ((obS (obS (obS (obS (obS (obS (obS (obS (obS (obS ob0 ?_) ?_) ?_) ?_) ?_) ?_) ?_) ?_) ?_) ?_)) ?_
   ·intro vals ρ w34 X hd h0 st33
    have e35 : ρ 0 = (pt fb 0) := (h0 0 rfl).trans hs7
    refine W1 (OpT.move (pt fb 0) e35 ?_)
    refine WL.nil ?_
    exact oneQ.mk ⟨rfl, st33⟩
   ·intro vals ρ w37 X hd h0 st36
    have e38 : ρ 26 = (pt fb 0) := ((hd 0 rfl).2 26 rfl).trans (hd 0 rfl).1
    refine W1 (OpT.nilc ⟨fb, 0, none⟩ e38 ?_)
    refine WL.nil ?_
    exact oneQ.mk ⟨rfl, st36⟩
   ·intro vals ρ w40 X hd h0 st39
    have e41 : ρ 27 = (pt fb 0) := ((hd 1 rfl).2 27 rfl).trans (hd 1 rfl).1
    refine W1 (OpT.field 1 ⟨fb, 0, none⟩ ⟨fb, 1, none⟩ tf133_1 e41 rfl ?_)
    refine WL.nil ?_
    exact oneQ.mk ⟨rfl, st39⟩
   ·intro vals ρ w43 X hd h0 st42
    have e44 : ρ 28 = (pt fb 1) := ((hd 2 rfl).2 28 rfl).trans (hd 2 rfl).1
    refine W1 (OpT.loadS ⟨fb, 1, none⟩ (.map (some mb)) ta79 e44 (st42.cellB (i := 1) rfl rfl) ?_)
    refine WL.nil ?_
    exact oneQ.mk ⟨rfl, st42⟩
   ·intro vals ρ w46 X hd h0 st45
    have e47 : ρ 5 = (.string x12) := (h0 5 rfl).trans rfl
    refine W1 (OpT.move (.string x12) e47 ?_)
    refine WL.nil ?_
    exact oneQ.mk ⟨rfl, st45⟩
   ·intro vals ρ w49 X hd h0 st48
    have e50 : ρ 0 = (pt fb 0) := (h0 0 rfl).trans hs7
    refine W1 (OpT.move (pt fb 0) e50 ?_)
    refine WL.nil ?_
    exact oneQ.mk ⟨rfl, st48⟩
   ·intro vals ρ w52 X hd h0 st51
    have e53 : ρ 31 = (pt fb 0) := ((hd 5 rfl).2 31 rfl).trans (hd 5 rfl).1
    refine W1 (OpT.nilc ⟨fb, 0, none⟩ e53 ?_)
    refine WL.nil ?_
    exact oneQ.mk ⟨rfl, st51⟩
   ·intro vals ρ w55 X hd h0 st54
    have e56 : ρ 32 = (pt fb 0) := ((hd 6 rfl).2 32 rfl).trans (hd 6 rfl).1
    refine W1 (OpT.field 0 ⟨fb, 0, none⟩ ⟨fb, 0, none⟩ tf133_0 e56 rfl ?_)
    refine WL.nil ?_
    exact oneQ.mk ⟨rfl, st54⟩
   ·intro vals ρ w58 X hd h0 st57
    have e59 : ρ 33 = (pt fb 0) := ((hd 7 rfl).2 33 rfl).trans (hd 7 rfl).1
    refine W1 (OpT.loadS ⟨fb, 0, none⟩ v25 ta37 e59 (st57.cellB (i := 1) rfl rfl) ?_)
    refine WL.nil ?_
    exact oneQ.mk ⟨rfl, st57⟩
   ·intro vals ρ w61 X hd h0 st60
    have e62 : ρ 34 = v25 := ((hd 8 rfl).2 34 rfl).trans (hd 8 rfl).1
    refine W1 (OpT.lenRow st60 0 rfl rfl tu37 e62 ?_)
    refine WL.nil ?_
    exact oneQ.mk ⟨rfl, st60⟩
   intro vals ρ65 w64 hv h0 st63
   replace st63 : St Z w0 w64 (Row 9 1 v25 ((addNews l (xs.take i)).length + 1) (((addNews l (xs.take i)).map Value.string) ++ [(.string x12)]) :: Blk fb 133 [v25, (.map (some mb))] :: Mp Value.string (Value.int .i64) mb (fm (addNews l (xs.take i))) :: L) := st63
   have e66 : ρ65 0 = (pt fb 0) := (h0 0 rfl).trans hs7
   have e67 : ρ65 6 = v := (h0 6 rfl).trans hs8
   have e68 : ρ65 7 = (ni (xs.length)) := (h0 7 rfl).trans hs9
   have e69 : ρ65 8 = (ni i) := (h0 8 rfl).trans hs6
   have e70 : ρ65 29 = (.map (some mb)) := ((hv 3 rfl).2 29 rfl).trans (hv 3 rfl).1
   have e71 : ρ65 30 = (.string x12) := ((hv 4 rfl).2 30 rfl).trans (hv 4 rfl).1
   have e72 : ρ65 35 = (.int .i64 (((((addNews l (xs.take i)).length + 1) : Nat) : Int))) := ((hv 9 rfl).2 35 rfl).trans (hv 9 rfl).1
   clear hv h0
   refine WL.stepN (OpT.mapSet st63 2 rfl ko9 tu79 (x12) (((((addNews l (xs.take i)).length + 1) : Nat) : Int)) e70 e71 e72 (fun w73 st74 => ?_))
   refine WL.nil ?_
   refine blkQ_n ?_
   refine thenQ_n ?_
   refine WC.region ?_
   refine W1 (OpT.iadd .i64 (((i : Nat) : Int)) (1) (((i + 1 : Nat) : Int)) e69 rfl (wadd (a := i) (b := 1) (by omega)) ?_)
   refine W1 (OpT.move (ni (i + 1)) rfl ?_)
   refine WL.nil ?_
   have st75 : St Z w0 w73 (FS fb mb v25 (addNews l (xs.take (i + 1))) L) := by
     unfold FS
     rw [addNews_new hx12 h20, ← fm_set _ _ h20]
     simp only [List.map_append, List.map_cons, List.map_nil, List.length_append, List.length_cons, List.length_nil]
     exact (St.selT [Row 9 1 v25 ((addNews l (xs.take i)).length + 1) (((addNews l (xs.take i)).map Value.string) ++ [(.string x12)]), Blk fb 133 [v25, (.map (some mb))], Mp Value.string (Value.int .i64) mb (mset (fm (addNews l (xs.take i))) x12 ((((addNews l (xs.take i)).length + 1) : Nat) : Int))] [1, 0, 2] rfl (by decide) st74)
   exact loopQ_n _ (by omega) ⟨i + 1, v25, rfl, by omega, rfl, e66, e67, e68, st75⟩
  refine WC.skip ?_
  refine blkQ_n ?_
  refine thenQ_n ?_
  refine WC.region ?_
  refine W1 (OpT.iadd .i64 (((i : Nat) : Int)) (1) (((i + 1 : Nat) : Int)) hs6 rfl (wadd (a := i) (b := 1) (by omega)) ?_)
  refine W1 (OpT.move (ni (i + 1)) rfl ?_)
  refine WL.nil ?_
  have st76 : St Z w0 w18 (FS fb mb lv2 (addNews l (xs.take (i + 1))) L) := by rw [addNews_in hx12 (Classical.not_not.1 h20)]; exact st19
  exact loopQ_n _ (by omega) ⟨i + 1, lv2, rfl, by omega, rfl, hs7, hs8, hs9, st76⟩
 refine WC.exit ?_
 refine thenQ_x ?_
 refine loopQ_x ?_
 refine blkQ_hit ?_
 refine retQ.none (.inl rfl) ?_
 exact ⟨_, rfl, rfl, lv2, by rw [show xs = xs.take i from (List.take_of_length_le (by omega)).symm]; exact st4⟩

end Go.Ped
set_option linter.unusedVariables false
set_option maxRecDepth 20000
namespace Go.Ped
open Go Go.Eng Go.RowKit Go.Proofs

theorem tf142_0 : fieldB Tryz.prog 142 0 = some 0 := by kernel_rfl
theorem tf142_3 : fieldB Tryz.prog 142 3 = some 3 := by kernel_rfl
theorem cal46 : CallOk Tryz.prog 46 := ⟨⟨Tryz.f46, Tryz.func46, rfl, by decide⟩⟩
theorem cal68 : CallOk Tryz.prog 68 := ⟨⟨Tryz.f68, Tryz.func68, rfl, by decide⟩⟩
theorem tf142_1 : fieldB Tryz.prog 142 1 = some 1 := by kernel_rfl
theorem tf142_2 : fieldB Tryz.prog 142 2 = some 2 := by kernel_rfl
theorem subB_false {xs l : List ByteArray} {i : Nat} {x : ByteArray} (hx : xs[i]? = some x) (h : ¬ x ∈ l) : subB xs l = false :=
  List.all_eq_false.2 ⟨x, List.mem_of_getElem? hx, by simpa using h⟩
def loneF (e : Exp) : ByteArray := if e.op ≠ 0 then ⟨#[]⟩ else if 0 < (e.kids.length : Int) then ⟨#[]⟩ else if e.term.var = ⟨#[95]⟩ then ⟨#[]⟩ else e.term.var
structure Eqn where
  l : ByteArray
  r : ByteArray
  lv : List ByteArray
  rv : List ByteArray
def rEqn : Rl Eqn where
  sz := 4
  R Z w cs x := ∃ a b, cs = [.string x.l, .string x.r, a, b] ∧ rStr.sl Z w a x.lv ∧ rStr.sl Z w b x.rv
  len := by rintro _ _ _ _ ⟨_, _, rfl, _⟩; rfl
  mono := by rintro _ _ _ _ _ _ ⟨a, b, rfl, h1, h2⟩ hz hw; exact ⟨a, b, rfl, Rl.sl_mono h1 hz hw, Rl.sl_mono h2 hz hw⟩
def takeB (q : Eqn) (l : List ByteArray) : Bool := (decide (q.l ≠ ⟨#[]⟩) && (!decide (q.l ∈ l) && subB q.rv l)) || (decide (q.r ≠ ⟨#[]⟩) && (!decide (q.r ∈ l) && subB q.lv l))
def takeL (q : Eqn) (l : List ByteArray) : List ByteArray := if decide (q.l ≠ ⟨#[]⟩) && (!decide (q.l ∈ l) && subB q.rv l) then addNews l [q.l] else if decide (q.r ≠ ⟨#[]⟩) && (!decide (q.r ∈ l) && subB q.lv l) then addNews l [q.r] else l
theorem all_spec {Z : Nat → Prop} {w0 w : World} {L : List Res} {fb mb : Nat} {lv : Value} {l : List ByteArray} (st : St Z w0 w (FS fb mb lv l L)) (v : Value) (xs : List ByteArray) (hv : rStr.sl Z w0 v xs) : Calls Tryz.prog 46 #[(pt fb 0), v] w (Ret fun r w' => r = .bool (subB xs l) ∧ St Z w0 w' (FS fb mb lv l L)) := by
 have olv := st.rowOne (i := 1) rfl
 have clv := st.rowCel (i := 1) rfl
 have hal := Rl.sl_le hv
 refine calls_of_WC (m := 18) (rs := [.tmp 4]) Tryz.func46 rfl rfl rfl rfl ?_
 refine Wsr ?_
 refine W1 (OpT.assign (.bool false) rfl ?_)
 refine Wnt ?_
 refine WC.seq ?_
 refine Wsr ?_
 refine W1 (OpT.move v rfl ?_)
 refine W1 (OpT.lenR rfl tu37 hv rfl ?_)
 refine W1 (OpT.move (ii 0) rfl ?_)
 refine Wnt ?_
 refine WC.block ?_
 refine WC.loop (fun m ρ wz => ∃ (i : Nat), m = xs.length - i ∧ i ≤ xs.length ∧ Hid (∀ (j : Nat) x, j < i → xs[j]? = some x → decide (x ∈ l) = true) ∧ ρ 9 = (ni i) ∧ ρ 0 = (pt fb 0) ∧ ρ 7 = v ∧ ρ 8 = (ni (xs.length)) ∧ St Z w0 wz (Blk fb 133 [lv, (.map (some mb))] :: Row 9 1 lv l.length (l.map Value.string) :: Mp Value.string (Value.int .i64) mb (fm l) :: L)) _ ⟨0, rfl, by omega, fun j x hj => absurd hj (Nat.not_lt_zero _), rfl, rfl, rfl, rfl, st⟩ ?_
 rintro m1 ρ2 w3 ⟨i, hm10, hp5, HP, hs6, hs7, hs8, hs9, st4⟩
 refine Wsr ?_
 refine W1 (OpT.ilt .i64 (((i : Nat) : Int)) (((xs.length : Nat) : Int)) hs6 hs9 ?_)
 refine Wnt ?_
 refine WC.seq ?_
 refine WC.condP (((i : Nat) : Int) < ((xs.length : Nat) : Int)) rfl (fun h11 => ?_) (fun h11 => ?_)
 ·refine WC.skip ?_
  refine thenQ_n ?_
  refine WC.seq ?_
  refine WC.block ?_
  refine Wsr ?_
  obtain ⟨x12, hx12⟩ : ∃ x, (xs)[i]? = some x := ⟨_, List.getElem?_eq_getElem (by omega)⟩
  refine W1 (OpT.idxX tu37 ts9 hv hs8 .i64 (i) hs6 hx12 (fun ad13 cs14 hr15 hR16 => ?_))
  have hR16c := hR16
  obtain rfl := hR16
  refine W1 (OpT.loadS ad13 (.string x12) ta9 rfl (hr15.cell st4 (j := 0) rfl) ?_)
  refine W1 (OpT.assign (.string x12) rfl ?_)
  refine Wns ?_
  refine W1 (OpT.move (pt fb 0) hs7 ?_)
  refine W1 (OpT.move (.string x12) rfl ?_)
  refine W1 (OpT.callS cal74 [] [] [(pt fb 0), (.string x12)] rfl (ca2 rfl rfl) (has_spec st4 x12) ?_)
  rintro v17 w18 ⟨rfl, st19⟩
  refine W1 (OpT.notP (x12 ∈ l) rfl ?_)
  refine Wnt ?_
  refine WC.condP (¬ (x12 ∈ l)) rfl (fun h20 => ?_) (fun h20 => ?_)
  ·refine WC.seq ?_
   refine WC.region ?_
   refine W1 (OpT.assign (.bool false) rfl ?_)
   refine Wnt ?_
   refine WC.ret <| blkQ_r <| thenQ_r <| loopQ_r <| blkQ_r <| thenQ_r <| retQ.one (.bool false) rfl ?_
   exact ⟨_, rfl, by rw [subB_false hx12 (by simp_all)], st19⟩
  refine WC.skip ?_
  refine blkQ_n ?_
  refine thenQ_n ?_
  refine WC.region ?_
  refine W1 (OpT.iadd .i64 (((i : Nat) : Int)) (1) (((i + 1 : Nat) : Int)) hs6 rfl (wadd (a := i) (b := 1) (by omega)) ?_)
  refine W1 (OpT.move (ni (i + 1)) rfl ?_)
  refine WL.nil ?_
  exact loopQ_n _ (by omega) ⟨i + 1, rfl, by omega, fun j x hj hx => by
        rcases Nat.lt_succ_iff_lt_or_eq.1 hj with hj | rfl
        · exact HP.out j x hj hx
        · rw [hx12] at hx; cases hx; simp_all, rfl, hs7, hs8, hs9, st19⟩
 refine WC.exit ?_
 refine thenQ_x ?_
 refine loopQ_x ?_
 refine blkQ_hit ?_
 refine thenQ_n ?_
 refine Wsr ?_
 refine W1 (OpT.assign (.bool true) rfl ?_)
 refine Wnt ?_
 refine WC.ret <| retQ.one (.bool true) rfl ?_
 exact ⟨_, rfl, by rw [subB, all_get _ _ (fun j x hj hx => HP.out j x (by omega) hx)], st4⟩

theorem lone_spec {Z : Nat → Prop} {w0 w : World} {L : List Res} (st : St Z w0 w L) (e : Exp) (kv : Value) (hk : rExp.sl Z w0 kv e.kids) : Calls Tryz.prog 70 #[(.agg #[(.int .i8 (e.op)), (.string e.term.var), (.int .i8 (e.term.val.kind)), (.int .i64 (e.term.val.num)), (.string e.term.val.text), kv])] w (Ret fun r w' => r = .string (loneF e) ∧ St Z w0 w' L) := by
 refine calls_of_WC (m := 21) (rs := [.tmp 2]) Tryz.func70 rfl rfl rfl rfl ?_
 refine Wsr ?_
 refine W1 (OpT.box st (.agg #[(.int .i8 (e.op)), (.string e.term.var), (.int .i8 (e.term.val.kind)), (.int .i64 (e.term.val.num)), (.string e.term.val.text), kv]) [(.int .i8 (e.op)), (.string e.term.var), (.int .i8 (e.term.val.kind)), (.int .i64 (e.term.val.num)), (.string e.term.val.text), kv] rfl rfl (fun b1 w2 st3 => ?_))
 refine W1 (OpT.assign ve rfl ?_)
 refine Wnt ?_
 refine WC.seq ?_
 refine Wsr ?_
 refine W1 (OpT.field 0 ⟨b1, 0, none⟩ ⟨b1, 0, none⟩ tf72_0 rfl rfl ?_)
 refine W1 (OpT.loadS ⟨b1, 0, none⟩ (.int .i8 (e.op)) ta64 rfl (st3.cellB (i := 0) rfl rfl) ?_)
 refine W1 (OpT.ine .i8 (e.op) (0) rfl rfl ?_)
 refine W1 (OpT.move (.bool (decide (e.op ≠ 0))) rfl ?_)
 by_cases h4 : e.op ≠ 0
 ·refine WL.pass (dj := 6) (c := true) rfl rfl rfl (bT h4) rfl ?_
  refine WL.pass (dj := 6) (c := true) rfl rfl rfl (bT h4) rfl ?_
  refine WL.pass (dj := 6) (c := true) rfl rfl rfl (bT h4) rfl ?_
  refine WL.pass (dj := 6) (c := true) rfl rfl rfl (bT h4) rfl ?_
  refine W1 (OpT.pickT (.bool true) (bT h4) rfl ?_)
  refine W1 (OpT.move (.bool true) rfl ?_)
  refine WL.pass (dj := 12) (c := true) rfl rfl rfl rfl rfl ?_
  refine WL.pass (dj := 12) (c := true) rfl rfl rfl rfl rfl ?_
  refine WL.pass (dj := 12) (c := true) rfl rfl rfl rfl rfl ?_
  refine WL.pass (dj := 12) (c := true) rfl rfl rfl rfl rfl ?_
  refine W1 (OpT.pickT (.bool true) rfl rfl ?_)
  refine Wnt ?_
  refine WC.condT rfl ?_
  refine Wsr ?_
  refine W1 (OpT.assign ve rfl ?_)
  refine Wnt ?_
  refine WC.ret <| thenQ_r <| retQ.one ve rfl ?_
  exact ⟨_, rfl, by simp_all [loneF], (St.selT [Blk b1 72 [(.int .i8 (e.op)), (.string e.term.var), (.int .i8 (e.term.val.kind)), (.int .i64 (e.term.val.num)), (.string e.term.val.text), kv]] [] rfl (by decide) st3)⟩
 refine W2 (dj := 6) (bF h4) (OpT.field 5 ⟨b1, 0, none⟩ ⟨b1, 5, none⟩ tf72_2 rfl rfl ?_)
 refine W2 (dj := 6) (bF h4) (OpT.loadS ⟨b1, 5, none⟩ kv ta70 rfl (st3.cellB (i := 0) rfl rfl) ?_)
 refine W2 (dj := 6) (bF h4) (OpT.lenR rfl tu70 hk rfl ?_)
 refine W2 (dj := 6) (bF h4) (OpT.igt .i64 (((e.kids.length : Nat) : Int)) (0) rfl rfl ?_)
 refine W1 (OpT.pickF (.bool (decide (0 < ((e.kids.length : Nat) : Int)))) (bF h4) rfl ?_)
 refine W1 (OpT.move (.bool (decide (0 < ((e.kids.length : Nat) : Int)))) rfl ?_)
 by_cases h5 : 0 < ((e.kids.length : Nat) : Int)
 ·refine WL.pass (dj := 12) (c := true) rfl rfl rfl (bT h5) rfl ?_
  refine WL.pass (dj := 12) (c := true) rfl rfl rfl (bT h5) rfl ?_
  refine WL.pass (dj := 12) (c := true) rfl rfl rfl (bT h5) rfl ?_
  refine WL.pass (dj := 12) (c := true) rfl rfl rfl (bT h5) rfl ?_
  refine W1 (OpT.pickT (.bool true) (bT h5) rfl ?_)
  refine Wnt ?_
  refine WC.condT rfl ?_
  refine Wsr ?_
  refine W1 (OpT.assign ve rfl ?_)
  refine Wnt ?_
  refine WC.ret <| thenQ_r <| retQ.one ve rfl ?_
  exact ⟨_, rfl, by simp_all [loneF], (St.selT [Blk b1 72 [(.int .i8 (e.op)), (.string e.term.var), (.int .i8 (e.term.val.kind)), (.int .i64 (e.term.val.num)), (.string e.term.val.text), kv]] [] rfl (by decide) st3)⟩
 refine W2 (dj := 12) (bF h5) (OpT.field 1 ⟨b1, 0, none⟩ ⟨b1, 1, none⟩ tf72_1 rfl rfl ?_)
 refine W2 (dj := 12) (bF h5) (OpT.field 0 ⟨b1, 1, none⟩ ⟨b1, 1, none⟩ tf69_0 rfl rfl ?_)
 refine W2 (dj := 12) (bF h5) (OpT.loadS ⟨b1, 1, none⟩ (.string e.term.var) ta9 rfl (st3.cellB (i := 0) rfl rfl) ?_)
 refine W2 (dj := 12) (bF h5) (OpT.seq (e.term.var) ((⟨#[95]⟩ : ByteArray)) rfl rfl ?_)
 refine W1 (OpT.pickF (.bool (decide (e.term.var = (⟨#[95]⟩ : ByteArray)))) (bF h5) rfl ?_)
 refine Wnt ?_
 refine WC.condP (e.term.var = (⟨#[95]⟩ : ByteArray)) rfl (fun h6 => ?_) (fun h6 => ?_)
 ·refine WC.seq ?_
  refine WC.region ?_
  refine W1 (OpT.assign ve rfl ?_)
  refine Wnt ?_
  refine WC.ret <| thenQ_r <| retQ.one ve rfl ?_
  exact ⟨_, rfl, by simp_all [loneF], (St.selT [Blk b1 72 [(.int .i8 (e.op)), (.string e.term.var), (.int .i8 (e.term.val.kind)), (.int .i64 (e.term.val.num)), (.string e.term.val.text), kv]] [] rfl (by decide) st3)⟩
 refine WC.skip ?_
 refine thenQ_n ?_
 refine Wsr ?_
 refine W1 (OpT.field 1 ⟨b1, 0, none⟩ ⟨b1, 1, none⟩ tf72_1 rfl rfl ?_)
 refine W1 (OpT.field 0 ⟨b1, 1, none⟩ ⟨b1, 1, none⟩ tf69_0 rfl rfl ?_)
 refine W1 (OpT.loadS ⟨b1, 1, none⟩ (.string e.term.var) ta9 rfl (st3.cellB (i := 0) rfl rfl) ?_)
 refine W1 (OpT.assign (.string e.term.var) rfl ?_)
 refine Wnt ?_
 refine WC.ret <| retQ.one (.string e.term.var) rfl ?_
 exact ⟨_, rfl, by simp_all [loneF], (St.selT [Blk b1 72 [(.int .i8 (e.op)), (.string e.term.var), (.int .i8 (e.term.val.kind)), (.int .i64 (e.term.val.num)), (.string e.term.val.text), kv]] [] rfl (by decide) st3)⟩

theorem take_spec {Z : Nat → Prop} {w0 w : World} {L : List Res} {fb mb : Nat} {lv : Value} {l : List ByteArray} (st : St Z w0 w (FS fb mb lv l L)) (q : Eqn) (a b : Value) (ha : rStr.sl Z w0 a q.lv) (hb : rStr.sl Z w0 b q.rv) (hl : l.length + 1 < 1073741824) : Calls Tryz.prog 73 #[(pt fb 0), (.agg #[(.string q.l), (.string q.r), a, b])] w (Ret fun r w' => r = .bool (takeB q l) ∧ ∃ lv', St Z w0 w' (FS fb mb lv' (takeL q l) L)) := by
 have olv := st.rowOne (i := 1) rfl
 have clv := st.rowCel (i := 1) rfl
 refine calls_of_WC (m := 49) (rs := [.tmp 4]) Tryz.func73 rfl rfl rfl rfl ?_
 refine Wsr ?_
 refine W1 (OpT.box st (.agg #[(.string q.l), (.string q.r), a, b]) [(.string q.l), (.string q.r), a, b] rfl rfl (fun b1 w2 st3 => ?_))
 refine W1 (OpT.assign (.bool false) rfl ?_)
 refine Wnt ?_
 refine WC.seq ?_
 refine WC.block ?_
 refine Wsr ?_
 refine W1 (OpT.field 0 ⟨b1, 0, none⟩ ⟨b1, 0, none⟩ tf142_0 rfl rfl ?_)
 refine W1 (OpT.loadS ⟨b1, 0, none⟩ (.string q.l) ta9 rfl (st3.cellB (i := 0) rfl rfl) ?_)
 refine W1 (OpT.sne (q.l) ((⟨#[]⟩ : ByteArray)) rfl rfl ?_)
 refine W1 (OpT.move (.bool (decide (q.l ≠ (⟨#[]⟩ : ByteArray)))) rfl ?_)
 by_cases h4 : q.l ≠ (⟨#[]⟩ : ByteArray)
 ·refine W2 (dj := 9) (bT h4) (OpT.move (pt fb 0) rfl ?_)
  refine W2 (dj := 9) (bT h4) (OpT.field 0 ⟨b1, 0, none⟩ ⟨b1, 0, none⟩ tf142_0 rfl rfl ?_)
  refine W2 (dj := 9) (bT h4) (OpT.loadS ⟨b1, 0, none⟩ (.string q.l) ta9 rfl (st3.cellB (i := 0) rfl rfl) ?_)
  refine W2 (dj := 9) (bT h4) (OpT.callS cal74 [] [] [(pt fb 0), (.string q.l)] rfl (ca2 rfl rfl) (has_spec (St.selT [Blk b1 142 [(.string q.l), (.string q.r), a, b], Blk fb 133 [lv, (.map (some mb))], Row 9 1 lv l.length (l.map Value.string), Mp Value.string (Value.int .i64) mb (fm l)] [1, 2, 3, 0] rfl (by decide) st3) q.l) ?_)
  rintro v5 w6 ⟨rfl, st7⟩
  refine W2 (dj := 9) (bT h4) (OpT.notP (q.l ∈ l) rfl ?_)
  refine W1 (OpT.pickT (.bool (decide (¬ (q.l ∈ l)))) (bT h4) rfl ?_)
  refine W1 (OpT.move (.bool (decide (¬ (q.l ∈ l)))) rfl ?_)
  by_cases h8 : ¬ (q.l ∈ l)
  ·refine W2 (dj := 16) (bT h8) (OpT.move (pt fb 0) rfl ?_)
   refine W2 (dj := 16) (bT h8) (OpT.field 3 ⟨b1, 0, none⟩ ⟨b1, 3, none⟩ tf142_3 rfl rfl ?_)
   refine W2 (dj := 16) (bT h8) (OpT.loadS ⟨b1, 3, none⟩ b ta37 rfl (st7.cellB (i := 3) rfl rfl) ?_)
   refine W2 (dj := 16) (bT h8) (OpT.callS cal46 [] [] [(pt fb 0), b] rfl (ca2 rfl rfl) (all_spec st7 _ q.rv hb) ?_)
   rintro v9 w10 ⟨rfl, st11⟩
   refine W1 (OpT.pickT (.bool (subB q.rv l)) (bT h8) rfl ?_)
   refine W1 (OpT.assign (.bool (subB q.rv l)) rfl ?_)
   refine Wnt ?_
   refine WC.cond ((subB q.rv l)) rfl (fun h12 => ?_) (fun h12 => ?_)
   ·refine WC.region ?_
    refine W1 (OpT.move (pt fb 0) rfl ?_)
    refine W1 (OpT.field 0 ⟨b1, 0, none⟩ ⟨b1, 0, none⟩ tf142_0 rfl rfl ?_)
    refine W1 (OpT.loadS ⟨b1, 0, none⟩ (.string q.l) ta9 rfl (st11.cellB (i := 3) rfl rfl) ?_)
    refine W1 (OpT.buildSlice st11 [(0, (.string q.l))] [(.string q.l)] tu37 ts9 tz9 (mp1 rfl) (by kernel_rfl) (by decide) (fun b13 w14 st15 => ?_))
    obtain ⟨Z16, hz17, hw18, hr19, st21, bk20⟩ := St.freezeB (st15 : St Z w0 w14 (Blk b13 9 [(.string q.l)] :: Blk fb 133 [lv, (.map (some mb))] :: Row 9 1 lv l.length (l.map Value.string) :: Mp Value.string (Value.int .i64) mb (fm l) :: Blk b1 142 [(.string q.l), (.string q.r), a, b] :: L))
    refine W1 (OpT.callS cal68 [] [] [(pt fb 0), (.slice (some ⟨b13, 0, none⟩) 1 1)] rfl (ca2 rfl rfl) (add_spec st21 _ [q.l] (fresh_str hr19) (by simp only [List.length_cons, List.length_nil]; omega)) ?_)
    rintro v25 w26 ⟨rfl, lv22, st27⟩
    replace st27 := bk20 _ _ st27
    have o23 := st27.rowOne (i := 2) rfl
    have c24 := st27.rowCel (i := 2) rfl
    refine WL.nil ?_
    refine blkQ_n ?_
    refine thenQ_n ?_
    refine Wsr ?_
    refine W1 (OpT.assign (.bool true) rfl ?_)
    refine Wnt ?_
    refine WC.ret <| retQ.one (.bool true) rfl ?_
    exact ⟨_, rfl, by simp_all [takeB], _, by rw [show takeL q l = (addNews l [q.l]) from by simp_all [takeL]]; exact (St.selT [Blk b13 9 [(.string q.l)], Blk fb 133 [lv22, (.map (some mb))], Row 9 1 lv22 (addNews l [q.l]).length ((addNews l [q.l]).map Value.string), Mp Value.string (Value.int .i64) mb (fm (addNews l [q.l])), Blk b1 142 [(.string q.l), (.string q.r), a, b]] [1, 2, 3] rfl (by decide) st27)⟩
   refine Wsr ?_
   refine W1 (OpT.field 1 ⟨b1, 0, none⟩ ⟨b1, 1, none⟩ tf142_1 rfl rfl ?_)
   refine W1 (OpT.loadS ⟨b1, 1, none⟩ (.string q.r) ta9 rfl (st11.cellB (i := 3) rfl rfl) ?_)
   refine W1 (OpT.sne (q.r) ((⟨#[]⟩ : ByteArray)) rfl rfl ?_)
   refine W1 (OpT.move (.bool (decide (q.r ≠ (⟨#[]⟩ : ByteArray)))) rfl ?_)
   by_cases h28 : q.r ≠ (⟨#[]⟩ : ByteArray)
   ·refine W2 (dj := 31) (bT h28) (OpT.move (pt fb 0) rfl ?_)
    refine W2 (dj := 31) (bT h28) (OpT.field 1 ⟨b1, 0, none⟩ ⟨b1, 1, none⟩ tf142_1 rfl rfl ?_)
    refine W2 (dj := 31) (bT h28) (OpT.loadS ⟨b1, 1, none⟩ (.string q.r) ta9 rfl (st11.cellB (i := 3) rfl rfl) ?_)
    refine W2 (dj := 31) (bT h28) (OpT.callS cal74 [] [] [(pt fb 0), (.string q.r)] rfl (ca2 rfl rfl) (has_spec st11 q.r) ?_)
    rintro v29 w30 ⟨rfl, st31⟩
    refine W2 (dj := 31) (bT h28) (OpT.notP (q.r ∈ l) rfl ?_)
    refine W1 (OpT.pickT (.bool (decide (¬ (q.r ∈ l)))) (bT h28) rfl ?_)
    refine W1 (OpT.move (.bool (decide (¬ (q.r ∈ l)))) rfl ?_)
    by_cases h32 : ¬ (q.r ∈ l)
    ·refine W2 (dj := 38) (bT h32) (OpT.move (pt fb 0) rfl ?_)
     refine W2 (dj := 38) (bT h32) (OpT.field 2 ⟨b1, 0, none⟩ ⟨b1, 2, none⟩ tf142_2 rfl rfl ?_)
     refine W2 (dj := 38) (bT h32) (OpT.loadS ⟨b1, 2, none⟩ a ta37 rfl (st31.cellB (i := 3) rfl rfl) ?_)
     refine W2 (dj := 38) (bT h32) (OpT.callS cal46 [] [] [(pt fb 0), a] rfl (ca2 rfl rfl) (all_spec st31 _ q.lv ha) ?_)
     rintro v33 w34 ⟨rfl, st35⟩
     refine W1 (OpT.pickT (.bool (subB q.lv l)) (bT h32) rfl ?_)
     refine W1 (OpT.assign (.bool (subB q.lv l)) rfl ?_)
     refine Wnt ?_
     refine WC.cond ((subB q.lv l)) rfl (fun h36 => ?_) (fun h36 => ?_)
     ·refine WC.region ?_
      refine W1 (OpT.move (pt fb 0) rfl ?_)
      refine W1 (OpT.field 1 ⟨b1, 0, none⟩ ⟨b1, 1, none⟩ tf142_1 rfl rfl ?_)
      refine W1 (OpT.loadS ⟨b1, 1, none⟩ (.string q.r) ta9 rfl (st35.cellB (i := 3) rfl rfl) ?_)
      refine W1 (OpT.buildSlice st35 [(0, (.string q.r))] [(.string q.r)] tu37 ts9 tz9 (mp1 rfl) (by kernel_rfl) (by decide) (fun b37 w38 st39 => ?_))
      obtain ⟨Z40, hz41, hw42, hr43, st45, bk44⟩ := St.freezeB (st39 : St Z w0 w38 (Blk b37 9 [(.string q.r)] :: Blk fb 133 [lv, (.map (some mb))] :: Row 9 1 lv l.length (l.map Value.string) :: Mp Value.string (Value.int .i64) mb (fm l) :: Blk b1 142 [(.string q.l), (.string q.r), a, b] :: L))
      refine W1 (OpT.callS cal68 [] [] [(pt fb 0), (.slice (some ⟨b37, 0, none⟩) 1 1)] rfl (ca2 rfl rfl) (add_spec st45 _ [q.r] (fresh_str hr43) (by simp only [List.length_cons, List.length_nil]; omega)) ?_)
      rintro v49 w50 ⟨rfl, lv46, st51⟩
      replace st51 := bk44 _ _ st51
      have o47 := st51.rowOne (i := 2) rfl
      have c48 := st51.rowCel (i := 2) rfl
      refine WL.nil ?_
      refine blkQ_n ?_
      refine thenQ_n ?_
      refine Wsr ?_
      refine W1 (OpT.assign (.bool true) rfl ?_)
      refine Wnt ?_
      refine WC.ret <| retQ.one (.bool true) rfl ?_
      exact ⟨_, rfl, by simp_all [takeB], _, by rw [show takeL q l = (addNews l [q.r]) from by simp_all [takeL]]; exact (St.selT [Blk b37 9 [(.string q.r)], Blk fb 133 [lv46, (.map (some mb))], Row 9 1 lv46 (addNews l [q.r]).length ((addNews l [q.r]).map Value.string), Mp Value.string (Value.int .i64) mb (fm (addNews l [q.r])), Blk b1 142 [(.string q.l), (.string q.r), a, b]] [1, 2, 3] rfl (by decide) st51)⟩
     refine Wsr ?_
     refine W1 (OpT.assign (.bool false) rfl ?_)
     refine Wnt ?_
     refine WC.ret <| blkQ_r <| thenQ_r <| retQ.one (.bool false) rfl ?_
     exact ⟨_, rfl, by simp_all [takeB], _, by rw [show takeL q l = l from by simp_all [takeL]]; exact (St.selT [Blk fb 133 [lv, (.map (some mb))], Row 9 1 lv l.length (l.map Value.string), Mp Value.string (Value.int .i64) mb (fm l), Blk b1 142 [(.string q.l), (.string q.r), a, b]] [0, 1, 2] rfl (by decide) st35)⟩
    refine WL.pass (dj := 38) (c := false) rfl rfl rfl (bF h32) rfl ?_
    refine WL.pass (dj := 38) (c := false) rfl rfl rfl (bF h32) rfl ?_
    refine WL.pass (dj := 38) (c := false) rfl rfl rfl (bF h32) rfl ?_
    refine WL.pass (dj := 38) (c := false) rfl rfl rfl (bF h32) rfl ?_
    refine W1 (OpT.pickF (.bool false) (bF h32) rfl ?_)
    refine W1 (OpT.assign (.bool false) rfl ?_)
    refine Wnt ?_
    refine WC.condF rfl ?_
    refine Wsr ?_
    refine W1 (OpT.assign (.bool false) rfl ?_)
    refine Wnt ?_
    refine WC.ret <| blkQ_r <| thenQ_r <| retQ.one (.bool false) rfl ?_
    exact ⟨_, rfl, by simp_all [takeB], _, by rw [show takeL q l = l from by simp_all [takeL]]; exact (St.selT [Blk fb 133 [lv, (.map (some mb))], Row 9 1 lv l.length (l.map Value.string), Mp Value.string (Value.int .i64) mb (fm l), Blk b1 142 [(.string q.l), (.string q.r), a, b]] [0, 1, 2] rfl (by decide) st31)⟩
   refine WL.pass (dj := 31) (c := false) rfl rfl rfl (bF h28) rfl ?_
   refine WL.pass (dj := 31) (c := false) rfl rfl rfl (bF h28) rfl ?_
   refine WL.pass (dj := 31) (c := false) rfl rfl rfl (bF h28) rfl ?_
   refine WL.pass (dj := 31) (c := false) rfl rfl rfl (bF h28) rfl ?_
   refine WL.pass (dj := 31) (c := false) rfl rfl rfl (bF h28) rfl ?_
   refine W1 (OpT.pickF (.bool false) (bF h28) rfl ?_)
   refine W1 (OpT.move (.bool false) rfl ?_)
   refine WL.pass (dj := 38) (c := false) rfl rfl rfl rfl rfl ?_
   refine WL.pass (dj := 38) (c := false) rfl rfl rfl rfl rfl ?_
   refine WL.pass (dj := 38) (c := false) rfl rfl rfl rfl rfl ?_
   refine WL.pass (dj := 38) (c := false) rfl rfl rfl rfl rfl ?_
   refine W1 (OpT.pickF (.bool false) rfl rfl ?_)
   refine W1 (OpT.assign (.bool false) rfl ?_)
   refine Wnt ?_
   refine WC.condF rfl ?_
   refine Wsr ?_
   refine W1 (OpT.assign (.bool false) rfl ?_)
   refine Wnt ?_
   refine WC.ret <| blkQ_r <| thenQ_r <| retQ.one (.bool false) rfl ?_
   exact ⟨_, rfl, by simp_all [takeB], _, by rw [show takeL q l = l from by simp_all [takeL]]; exact (St.selT [Blk fb 133 [lv, (.map (some mb))], Row 9 1 lv l.length (l.map Value.string), Mp Value.string (Value.int .i64) mb (fm l), Blk b1 142 [(.string q.l), (.string q.r), a, b]] [0, 1, 2] rfl (by decide) st11)⟩
  refine WL.pass (dj := 16) (c := false) rfl rfl rfl (bF h8) rfl ?_
  refine WL.pass (dj := 16) (c := false) rfl rfl rfl (bF h8) rfl ?_
  refine WL.pass (dj := 16) (c := false) rfl rfl rfl (bF h8) rfl ?_
  refine WL.pass (dj := 16) (c := false) rfl rfl rfl (bF h8) rfl ?_
  refine W1 (OpT.pickF (.bool false) (bF h8) rfl ?_)
  refine W1 (OpT.assign (.bool false) rfl ?_)
  refine Wnt ?_
  refine WC.condF rfl ?_
  refine Wsr ?_
  refine W1 (OpT.field 1 ⟨b1, 0, none⟩ ⟨b1, 1, none⟩ tf142_1 rfl rfl ?_)
  refine W1 (OpT.loadS ⟨b1, 1, none⟩ (.string q.r) ta9 rfl (st7.cellB (i := 3) rfl rfl) ?_)
  refine W1 (OpT.sne (q.r) ((⟨#[]⟩ : ByteArray)) rfl rfl ?_)
  refine W1 (OpT.move (.bool (decide (q.r ≠ (⟨#[]⟩ : ByteArray)))) rfl ?_)
  by_cases h52 : q.r ≠ (⟨#[]⟩ : ByteArray)
  ·refine W2 (dj := 31) (bT h52) (OpT.move (pt fb 0) rfl ?_)
   refine W2 (dj := 31) (bT h52) (OpT.field 1 ⟨b1, 0, none⟩ ⟨b1, 1, none⟩ tf142_1 rfl rfl ?_)
   refine W2 (dj := 31) (bT h52) (OpT.loadS ⟨b1, 1, none⟩ (.string q.r) ta9 rfl (st7.cellB (i := 3) rfl rfl) ?_)
   refine W2 (dj := 31) (bT h52) (OpT.callS cal74 [] [] [(pt fb 0), (.string q.r)] rfl (ca2 rfl rfl) (has_spec st7 q.r) ?_)
   rintro v53 w54 ⟨rfl, st55⟩
   refine W2 (dj := 31) (bT h52) (OpT.notP (q.r ∈ l) rfl ?_)
   refine W1 (OpT.pickT (.bool (decide (¬ (q.r ∈ l)))) (bT h52) rfl ?_)
   refine W1 (OpT.move (.bool (decide (¬ (q.r ∈ l)))) rfl ?_)
   by_cases h56 : ¬ (q.r ∈ l)
   ·refine W2 (dj := 38) (bT h56) (OpT.move (pt fb 0) rfl ?_)
    refine W2 (dj := 38) (bT h56) (OpT.field 2 ⟨b1, 0, none⟩ ⟨b1, 2, none⟩ tf142_2 rfl rfl ?_)
    refine W2 (dj := 38) (bT h56) (OpT.loadS ⟨b1, 2, none⟩ a ta37 rfl (st55.cellB (i := 3) rfl rfl) ?_)
    refine W2 (dj := 38) (bT h56) (OpT.callS cal46 [] [] [(pt fb 0), a] rfl (ca2 rfl rfl) (all_spec st55 _ q.lv ha) ?_)
    rintro v57 w58 ⟨rfl, st59⟩
    refine W1 (OpT.pickT (.bool (subB q.lv l)) (bT h56) rfl ?_)
    refine W1 (OpT.assign (.bool (subB q.lv l)) rfl ?_)
    refine Wnt ?_
    refine WC.cond ((subB q.lv l)) rfl (fun h60 => ?_) (fun h60 => ?_)
    ·refine WC.region ?_
     refine W1 (OpT.move (pt fb 0) rfl ?_)
     refine W1 (OpT.field 1 ⟨b1, 0, none⟩ ⟨b1, 1, none⟩ tf142_1 rfl rfl ?_)
     refine W1 (OpT.loadS ⟨b1, 1, none⟩ (.string q.r) ta9 rfl (st59.cellB (i := 3) rfl rfl) ?_)
     refine W1 (OpT.buildSlice st59 [(0, (.string q.r))] [(.string q.r)] tu37 ts9 tz9 (mp1 rfl) (by kernel_rfl) (by decide) (fun b61 w62 st63 => ?_))
     obtain ⟨Z64, hz65, hw66, hr67, st69, bk68⟩ := St.freezeB (st63 : St Z w0 w62 (Blk b61 9 [(.string q.r)] :: Blk fb 133 [lv, (.map (some mb))] :: Row 9 1 lv l.length (l.map Value.string) :: Mp Value.string (Value.int .i64) mb (fm l) :: Blk b1 142 [(.string q.l), (.string q.r), a, b] :: L))
     refine W1 (OpT.callS cal68 [] [] [(pt fb 0), (.slice (some ⟨b61, 0, none⟩) 1 1)] rfl (ca2 rfl rfl) (add_spec st69 _ [q.r] (fresh_str hr67) (by simp only [List.length_cons, List.length_nil]; omega)) ?_)
     rintro v73 w74 ⟨rfl, lv70, st75⟩
     replace st75 := bk68 _ _ st75
     have o71 := st75.rowOne (i := 2) rfl
     have c72 := st75.rowCel (i := 2) rfl
     refine WL.nil ?_
     refine blkQ_n ?_
     refine thenQ_n ?_
     refine Wsr ?_
     refine W1 (OpT.assign (.bool true) rfl ?_)
     refine Wnt ?_
     refine WC.ret <| retQ.one (.bool true) rfl ?_
     exact ⟨_, rfl, by simp_all [takeB], _, by rw [show takeL q l = (addNews l [q.r]) from by simp_all [takeL]]; exact (St.selT [Blk b61 9 [(.string q.r)], Blk fb 133 [lv70, (.map (some mb))], Row 9 1 lv70 (addNews l [q.r]).length ((addNews l [q.r]).map Value.string), Mp Value.string (Value.int .i64) mb (fm (addNews l [q.r])), Blk b1 142 [(.string q.l), (.string q.r), a, b]] [1, 2, 3] rfl (by decide) st75)⟩
    refine Wsr ?_
    refine W1 (OpT.assign (.bool false) rfl ?_)
    refine Wnt ?_
    refine WC.ret <| blkQ_r <| thenQ_r <| retQ.one (.bool false) rfl ?_
    exact ⟨_, rfl, by simp_all [takeB], _, by rw [show takeL q l = l from by simp_all [takeL]]; exact (St.selT [Blk fb 133 [lv, (.map (some mb))], Row 9 1 lv l.length (l.map Value.string), Mp Value.string (Value.int .i64) mb (fm l), Blk b1 142 [(.string q.l), (.string q.r), a, b]] [0, 1, 2] rfl (by decide) st59)⟩
   refine WL.pass (dj := 38) (c := false) rfl rfl rfl (bF h56) rfl ?_
   refine WL.pass (dj := 38) (c := false) rfl rfl rfl (bF h56) rfl ?_
   refine WL.pass (dj := 38) (c := false) rfl rfl rfl (bF h56) rfl ?_
   refine WL.pass (dj := 38) (c := false) rfl rfl rfl (bF h56) rfl ?_
   refine W1 (OpT.pickF (.bool false) (bF h56) rfl ?_)
   refine W1 (OpT.assign (.bool false) rfl ?_)
   refine Wnt ?_
   refine WC.condF rfl ?_
   refine Wsr ?_
   refine W1 (OpT.assign (.bool false) rfl ?_)
   refine Wnt ?_
   refine WC.ret <| blkQ_r <| thenQ_r <| retQ.one (.bool false) rfl ?_
   exact ⟨_, rfl, by simp_all [takeB], _, by rw [show takeL q l = l from by simp_all [takeL]]; exact (St.selT [Blk fb 133 [lv, (.map (some mb))], Row 9 1 lv l.length (l.map Value.string), Mp Value.string (Value.int .i64) mb (fm l), Blk b1 142 [(.string q.l), (.string q.r), a, b]] [0, 1, 2] rfl (by decide) st55)⟩
  refine WL.pass (dj := 31) (c := false) rfl rfl rfl (bF h52) rfl ?_
  refine WL.pass (dj := 31) (c := false) rfl rfl rfl (bF h52) rfl ?_
  refine WL.pass (dj := 31) (c := false) rfl rfl rfl (bF h52) rfl ?_
  refine WL.pass (dj := 31) (c := false) rfl rfl rfl (bF h52) rfl ?_
  refine WL.pass (dj := 31) (c := false) rfl rfl rfl (bF h52) rfl ?_
  refine W1 (OpT.pickF (.bool false) (bF h52) rfl ?_)
  refine W1 (OpT.move (.bool false) rfl ?_)
  refine WL.pass (dj := 38) (c := false) rfl rfl rfl rfl rfl ?_
  refine WL.pass (dj := 38) (c := false) rfl rfl rfl rfl rfl ?_
  refine WL.pass (dj := 38) (c := false) rfl rfl rfl rfl rfl ?_
  refine WL.pass (dj := 38) (c := false) rfl rfl rfl rfl rfl ?_
  refine W1 (OpT.pickF (.bool false) rfl rfl ?_)
  refine W1 (OpT.assign (.bool false) rfl ?_)
  refine Wnt ?_
  refine WC.condF rfl ?_
  refine Wsr ?_
  refine W1 (OpT.assign (.bool false) rfl ?_)
  refine Wnt ?_
  refine WC.ret <| blkQ_r <| thenQ_r <| retQ.one (.bool false) rfl ?_
  exact ⟨_, rfl, by simp_all [takeB], _, by rw [show takeL q l = l from by simp_all [takeL]]; exact (St.selT [Blk fb 133 [lv, (.map (some mb))], Row 9 1 lv l.length (l.map Value.string), Mp Value.string (Value.int .i64) mb (fm l), Blk b1 142 [(.string q.l), (.string q.r), a, b]] [0, 1, 2] rfl (by decide) st7)⟩
 refine WL.pass (dj := 9) (c := false) rfl rfl rfl (bF h4) rfl ?_
 refine WL.pass (dj := 9) (c := false) rfl rfl rfl (bF h4) rfl ?_
 refine WL.pass (dj := 9) (c := false) rfl rfl rfl (bF h4) rfl ?_
 refine WL.pass (dj := 9) (c := false) rfl rfl rfl (bF h4) rfl ?_
 refine WL.pass (dj := 9) (c := false) rfl rfl rfl (bF h4) rfl ?_
 refine W1 (OpT.pickF (.bool false) (bF h4) rfl ?_)
 refine W1 (OpT.move (.bool false) rfl ?_)
 refine WL.pass (dj := 16) (c := false) rfl rfl rfl rfl rfl ?_
 refine WL.pass (dj := 16) (c := false) rfl rfl rfl rfl rfl ?_
 refine WL.pass (dj := 16) (c := false) rfl rfl rfl rfl rfl ?_
 refine WL.pass (dj := 16) (c := false) rfl rfl rfl rfl rfl ?_
 refine W1 (OpT.pickF (.bool false) rfl rfl ?_)
 refine W1 (OpT.assign (.bool false) rfl ?_)
 refine Wnt ?_
 refine WC.condF rfl ?_
 refine Wsr ?_
 refine W1 (OpT.field 1 ⟨b1, 0, none⟩ ⟨b1, 1, none⟩ tf142_1 rfl rfl ?_)
 refine W1 (OpT.loadS ⟨b1, 1, none⟩ (.string q.r) ta9 rfl (st3.cellB (i := 0) rfl rfl) ?_)
 refine W1 (OpT.sne (q.r) ((⟨#[]⟩ : ByteArray)) rfl rfl ?_)
 refine W1 (OpT.move (.bool (decide (q.r ≠ (⟨#[]⟩ : ByteArray)))) rfl ?_)
 by_cases h76 : q.r ≠ (⟨#[]⟩ : ByteArray)
 ·refine W2 (dj := 31) (bT h76) (OpT.move (pt fb 0) rfl ?_)
  refine W2 (dj := 31) (bT h76) (OpT.field 1 ⟨b1, 0, none⟩ ⟨b1, 1, none⟩ tf142_1 rfl rfl ?_)
  refine W2 (dj := 31) (bT h76) (OpT.loadS ⟨b1, 1, none⟩ (.string q.r) ta9 rfl (st3.cellB (i := 0) rfl rfl) ?_)
  refine W2 (dj := 31) (bT h76) (OpT.callS cal74 [] [] [(pt fb 0), (.string q.r)] rfl (ca2 rfl rfl) (has_spec (St.selT [Blk b1 142 [(.string q.l), (.string q.r), a, b], Blk fb 133 [lv, (.map (some mb))], Row 9 1 lv l.length (l.map Value.string), Mp Value.string (Value.int .i64) mb (fm l)] [1, 2, 3, 0] rfl (by decide) st3) q.r) ?_)
  rintro v77 w78 ⟨rfl, st79⟩
  refine W2 (dj := 31) (bT h76) (OpT.notP (q.r ∈ l) rfl ?_)
  refine W1 (OpT.pickT (.bool (decide (¬ (q.r ∈ l)))) (bT h76) rfl ?_)
  refine W1 (OpT.move (.bool (decide (¬ (q.r ∈ l)))) rfl ?_)
  by_cases h80 : ¬ (q.r ∈ l)
  ·refine W2 (dj := 38) (bT h80) (OpT.move (pt fb 0) rfl ?_)
   refine W2 (dj := 38) (bT h80) (OpT.field 2 ⟨b1, 0, none⟩ ⟨b1, 2, none⟩ tf142_2 rfl rfl ?_)
   refine W2 (dj := 38) (bT h80) (OpT.loadS ⟨b1, 2, none⟩ a ta37 rfl (st79.cellB (i := 3) rfl rfl) ?_)
   refine W2 (dj := 38) (bT h80) (OpT.callS cal46 [] [] [(pt fb 0), a] rfl (ca2 rfl rfl) (all_spec st79 _ q.lv ha) ?_)
   rintro v81 w82 ⟨rfl, st83⟩
   refine W1 (OpT.pickT (.bool (subB q.lv l)) (bT h80) rfl ?_)
   refine W1 (OpT.assign (.bool (subB q.lv l)) rfl ?_)
   refine Wnt ?_
   refine WC.cond ((subB q.lv l)) rfl (fun h84 => ?_) (fun h84 => ?_)
   ·refine WC.region ?_
    refine W1 (OpT.move (pt fb 0) rfl ?_)
    refine W1 (OpT.field 1 ⟨b1, 0, none⟩ ⟨b1, 1, none⟩ tf142_1 rfl rfl ?_)
    refine W1 (OpT.loadS ⟨b1, 1, none⟩ (.string q.r) ta9 rfl (st83.cellB (i := 3) rfl rfl) ?_)
    refine W1 (OpT.buildSlice st83 [(0, (.string q.r))] [(.string q.r)] tu37 ts9 tz9 (mp1 rfl) (by kernel_rfl) (by decide) (fun b85 w86 st87 => ?_))
    obtain ⟨Z88, hz89, hw90, hr91, st93, bk92⟩ := St.freezeB (st87 : St Z w0 w86 (Blk b85 9 [(.string q.r)] :: Blk fb 133 [lv, (.map (some mb))] :: Row 9 1 lv l.length (l.map Value.string) :: Mp Value.string (Value.int .i64) mb (fm l) :: Blk b1 142 [(.string q.l), (.string q.r), a, b] :: L))
    refine W1 (OpT.callS cal68 [] [] [(pt fb 0), (.slice (some ⟨b85, 0, none⟩) 1 1)] rfl (ca2 rfl rfl) (add_spec st93 _ [q.r] (fresh_str hr91) (by simp only [List.length_cons, List.length_nil]; omega)) ?_)
    rintro v97 w98 ⟨rfl, lv94, st99⟩
    replace st99 := bk92 _ _ st99
    have o95 := st99.rowOne (i := 2) rfl
    have c96 := st99.rowCel (i := 2) rfl
    refine WL.nil ?_
    refine blkQ_n ?_
    refine thenQ_n ?_
    refine Wsr ?_
    refine W1 (OpT.assign (.bool true) rfl ?_)
    refine Wnt ?_
    refine WC.ret <| retQ.one (.bool true) rfl ?_
    exact ⟨_, rfl, by simp_all [takeB], _, by rw [show takeL q l = (addNews l [q.r]) from by simp_all [takeL]]; exact (St.selT [Blk b85 9 [(.string q.r)], Blk fb 133 [lv94, (.map (some mb))], Row 9 1 lv94 (addNews l [q.r]).length ((addNews l [q.r]).map Value.string), Mp Value.string (Value.int .i64) mb (fm (addNews l [q.r])), Blk b1 142 [(.string q.l), (.string q.r), a, b]] [1, 2, 3] rfl (by decide) st99)⟩
   refine Wsr ?_
   refine W1 (OpT.assign (.bool false) rfl ?_)
   refine Wnt ?_
   refine WC.ret <| blkQ_r <| thenQ_r <| retQ.one (.bool false) rfl ?_
   exact ⟨_, rfl, by simp_all [takeB], _, by rw [show takeL q l = l from by simp_all [takeL]]; exact (St.selT [Blk fb 133 [lv, (.map (some mb))], Row 9 1 lv l.length (l.map Value.string), Mp Value.string (Value.int .i64) mb (fm l), Blk b1 142 [(.string q.l), (.string q.r), a, b]] [0, 1, 2] rfl (by decide) st83)⟩
  refine WL.pass (dj := 38) (c := false) rfl rfl rfl (bF h80) rfl ?_
  refine WL.pass (dj := 38) (c := false) rfl rfl rfl (bF h80) rfl ?_
  refine WL.pass (dj := 38) (c := false) rfl rfl rfl (bF h80) rfl ?_
  refine WL.pass (dj := 38) (c := false) rfl rfl rfl (bF h80) rfl ?_
  refine W1 (OpT.pickF (.bool false) (bF h80) rfl ?_)
  refine W1 (OpT.assign (.bool false) rfl ?_)
  refine Wnt ?_
  refine WC.condF rfl ?_
  refine Wsr ?_
  refine W1 (OpT.assign (.bool false) rfl ?_)
  refine Wnt ?_
  refine WC.ret <| blkQ_r <| thenQ_r <| retQ.one (.bool false) rfl ?_
  exact ⟨_, rfl, by simp_all [takeB], _, by rw [show takeL q l = l from by simp_all [takeL]]; exact (St.selT [Blk fb 133 [lv, (.map (some mb))], Row 9 1 lv l.length (l.map Value.string), Mp Value.string (Value.int .i64) mb (fm l), Blk b1 142 [(.string q.l), (.string q.r), a, b]] [0, 1, 2] rfl (by decide) st79)⟩
 refine WL.pass (dj := 31) (c := false) rfl rfl rfl (bF h76) rfl ?_
 refine WL.pass (dj := 31) (c := false) rfl rfl rfl (bF h76) rfl ?_
 refine WL.pass (dj := 31) (c := false) rfl rfl rfl (bF h76) rfl ?_
 refine WL.pass (dj := 31) (c := false) rfl rfl rfl (bF h76) rfl ?_
 refine WL.pass (dj := 31) (c := false) rfl rfl rfl (bF h76) rfl ?_
 refine W1 (OpT.pickF (.bool false) (bF h76) rfl ?_)
 refine W1 (OpT.move (.bool false) rfl ?_)
 refine WL.pass (dj := 38) (c := false) rfl rfl rfl rfl rfl ?_
 refine WL.pass (dj := 38) (c := false) rfl rfl rfl rfl rfl ?_
 refine WL.pass (dj := 38) (c := false) rfl rfl rfl rfl rfl ?_
 refine WL.pass (dj := 38) (c := false) rfl rfl rfl rfl rfl ?_
 refine W1 (OpT.pickF (.bool false) rfl rfl ?_)
 refine W1 (OpT.assign (.bool false) rfl ?_)
 refine Wnt ?_
 refine WC.condF rfl ?_
 refine Wsr ?_
 refine W1 (OpT.assign (.bool false) rfl ?_)
 refine Wnt ?_
 refine WC.ret <| blkQ_r <| thenQ_r <| retQ.one (.bool false) rfl ?_
 exact ⟨_, rfl, by simp_all [takeB], _, by rw [show takeL q l = l from by simp_all [takeL]]; exact (St.selT [Blk b1 142 [(.string q.l), (.string q.r), a, b], Blk fb 133 [lv, (.map (some mb))], Row 9 1 lv l.length (l.map Value.string), Mp Value.string (Value.int .i64) mb (fm l)] [1, 2, 3] rfl (by decide) st3)⟩

end Go.Ped
set_option linter.unusedVariables false
set_option maxRecDepth 20000
namespace Go.Ped
open Go Go.Eng Go.RowKit Go.Proofs

theorem cal43 : CallOk Tryz.prog 43 := ⟨⟨Tryz.f43, Tryz.func43, rfl, by decide⟩⟩
theorem cal42 : CallOk Tryz.prog 42 := ⟨⟨Tryz.f42, Tryz.func42, rfl, by decide⟩⟩
theorem aggregates1_spec {Z : Nat → Prop} {w0 w : World} {L : List Res} (st : St Z w0 w L) (a : Agr) : Calls Tryz.prog 43 #[(.agg #[(.int .i8 (a.agg)), (.string a.term.var), (.int .i8 (a.term.val.kind)), (.int .i64 (a.term.val.num)), (.string a.term.val.text)])] w (Ret fun r w' => r = .bool (decide (a.agg ≠ 0)) ∧ St Z w0 w' L) := by
 refine calls_of_WC (m := 6) (rs := [.tmp 2]) Tryz.func43 rfl rfl rfl rfl ?_
 refine Wsr ?_
 refine W1 (OpT.box st (.agg #[(.int .i8 (a.agg)), (.string a.term.var), (.int .i8 (a.term.val.kind)), (.int .i64 (a.term.val.num)), (.string a.term.val.text)]) [(.int .i8 (a.agg)), (.string a.term.var), (.int .i8 (a.term.val.kind)), (.int .i64 (a.term.val.num)), (.string a.term.val.text)] rfl rfl (fun b1 w2 st3 => ?_))
 refine W1 (OpT.assign (.bool false) rfl ?_)
 refine Wns ?_
 refine W1 (OpT.field 0 ⟨b1, 0, none⟩ ⟨b1, 0, none⟩ tf102_0 rfl rfl ?_)
 refine W1 (OpT.loadS ⟨b1, 0, none⟩ (.int .i8 (a.agg)) ta100 rfl (st3.cellB (i := 0) rfl rfl) ?_)
 refine W1 (OpT.ine .i8 (a.agg) (0) rfl rfl ?_)
 refine W1 (OpT.assign (.bool (decide (a.agg ≠ 0))) rfl ?_)
 refine Wnt ?_
 refine WC.ret <| retQ.one (.bool (decide (a.agg ≠ 0))) rfl ?_
 exact ⟨_, rfl, rfl, (St.selT [Blk b1 102 [(.int .i8 (a.agg)), (.string a.term.var), (.int .i8 (a.term.val.kind)), (.int .i64 (a.term.val.num)), (.string a.term.val.text)]] [] rfl (by decide) st3)⟩

def aggsB (r : Rul) : Bool := r.head.any fun a => decide (a.agg ≠ 0)
theorem aggregates_spec {Z : Nat → Prop} {w0 w : World} {L : List Res} (st : St Z w0 w L) (r : Rul) (av bv : Value) (ha : rAgr.sl Z w0 av r.head) (hb : rLtr.sl Z w0 bv r.body) : Calls Tryz.prog 22 #[(.agg #[(.string r.pred), av, bv])] w (Ret fun v w' => v = .bool (aggsB r) ∧ St Z w0 w' L) := by
 refine calls_of_WC (m := 6) (rs := [.tmp 2]) Tryz.func22 rfl rfl rfl rfl ?_
 refine Wsr ?_
 refine W1 (OpT.box st (.agg #[(.string r.pred), av, bv]) [(.string r.pred), av, bv] rfl rfl (fun b1 w2 st3 => ?_))
 refine W1 (OpT.assign (.bool false) rfl ?_)
 refine Wns ?_
 refine W1 (OpT.field 1 ⟨b1, 0, none⟩ ⟨b1, 1, none⟩ tf54_1 rfl rfl ?_)
 refine W1 (OpT.loadS ⟨b1, 1, none⟩ av ta51 rfl (st3.cellB (i := 0) rfl rfl) ?_)
 refine W1 (OpT.callS cal42 [] [] [av, (.func (.func 43) #[] #[])] rfl (ca2 rfl rfl) (ContainsFunc_Agr st3 ha 43 cal43 [] (fun a => decide (a.agg ≠ 0)) (fun w' cs x hx st' hR => by obtain rfl := hR; exact aggregates1_spec st' x)) ?_)
 rintro v4 w5 ⟨rfl, st6⟩
 refine W1 (OpT.assign (.bool (aggsB r)) rfl ?_)
 refine Wnt ?_
 refine WC.ret <| retQ.one (.bool (aggsB r)) rfl ?_
 exact ⟨_, rfl, rfl, (St.selT [Blk b1 54 [(.string r.pred), av, bv]] [] rfl (by decide) st6)⟩

def isAtm (x : Ltr) : Bool := decide (x.kind = 1) || decide (x.kind = 2)
def snocF {α : Type} (g : Ltr → α) (es : List α) (x : Ltr) : List α := es ++ [g x]
def fld {β : Type} (f : β → Ltr → β) (b : β) (xs : List Ltr) : β := (xs.filter isAtm).foldl f b
theorem fld_in {β : Type} (f : β → Ltr → β) (b : β) {xs : List Ltr} {i : Nat} {x : Ltr} (hx : xs[i]? = some x) (h : isAtm x = true) : fld f b (xs.take (i + 1)) = f (fld f b (xs.take i)) x := by
  rw [List.take_add_one, hx, fld, fld, List.filter_append, List.foldl_append]; simp [h]
theorem fld_out {β : Type} (f : β → Ltr → β) (b : β) {xs : List Ltr} {i : Nat} {x : Ltr} (hx : xs[i]? = some x) (h : isAtm x = false) : fld f b (xs.take (i + 1)) = fld f b (xs.take i) := by
  rw [List.take_add_one, hx, fld, fld, List.filter_append, List.foldl_append]; simp [h]
theorem atoms_spec {Z : Nat → Prop} {w0 w : World} {L : List Res} {β : Type} (J : β → Value → List Res) (f : β → Ltr → β) (b : β) (lv : Value) (st : St Z w0 w (J b lv ++ L)) (v : Value) (xs : List Ltr) (hv : rLtr.sl Z w0 v xs) (k : Nat) (ok : CallOk Tryz.prog k) (cap : List Value) (hp : ∀ (L' : List Res) (w' : World) (i : Nat) (x : Ltr) (lv : Value), xs[i]? = some x → isAtm x = true → ∀ {cs : List Value}, rLtr.R Z w0 cs x → St Z w0 w' (J (fld f b (xs.take i)) lv ++ L') → Calls Tryz.prog k (.agg cs.toArray :: cap).toArray w' (Ret fun r w'' => r = .tuple #[] ∧ ∃ lv', St Z w0 w'' (J (f (fld f b (xs.take i)) x) lv' ++ L'))) : Calls Tryz.prog 24 #[v, (.func (.func k) #[] (cap).toArray)] w (Ret fun r w' => r = .tuple #[] ∧ ∃ lv', St Z w0 w' (J (fld f b xs) lv' ++ L)) := by
 have hal := Rl.sl_le hv
 refine calls_of_WC (m := 24) (rs := []) Tryz.func24 rfl rfl rfl rfl ?_
 refine Wsr ?_
 refine W1 (OpT.move v rfl ?_)
 refine W1 (OpT.lenR rfl tu52 hv rfl ?_)
 refine W1 (OpT.move (ii 0) rfl ?_)
 refine Wnt ?_
 refine WC.block ?_
 refine WC.loop (fun m ρ wz => ∃ (i : Nat), ∃ (lv2 : Value), m = xs.length - i ∧ i ≤ xs.length ∧ ρ 8 = (ni i) ∧ ρ 1 = (.func (.func k) #[] (cap).toArray) ∧ ρ 6 = v ∧ ρ 7 = (ni (xs.length)) ∧ St Z w0 wz ((J (fld f b (xs.take i)) lv2 ++ L))) _ ⟨0, lv, rfl, by omega, rfl, rfl, rfl, rfl, st⟩ ?_
 rintro m1 ρ2 w3 ⟨i, lv2, hm10, hp5, hs6, hs7, hs8, hs9, st4⟩
 refine Wsr ?_
 refine W1 (OpT.ilt .i64 (((i : Nat) : Int)) (((xs.length : Nat) : Int)) hs6 hs9 ?_)
 refine Wnt ?_
 refine WC.seq ?_
 refine WC.condP (((i : Nat) : Int) < ((xs.length : Nat) : Int)) rfl (fun h11 => ?_) (fun h11 => ?_)
 ·refine WC.skip ?_
  refine thenQ_n ?_
  refine WC.seq ?_
  refine WC.block ?_
  refine Wsr ?_
  obtain ⟨x12, hx12⟩ : ∃ x, (xs)[i]? = some x := ⟨_, List.getElem?_eq_getElem (by omega)⟩
  refine W1 (OpT.idxX tu52 ts74 hv hs8 .i64 (i) hs6 hx12 (fun ad13 cs14 hr15 hR16 => ?_))
  have hR16c := hR16
  obtain ⟨av17, lk18, rk19, rfl, ha20, hl21, hr22⟩ := hR16
  refine W1 (OpT.loadA ad13 16 [(.int .i8 (x12.kind)), (.string x12.atom.pred), av17, (.int .i8 (x12.rel)), (.int .i8 (x12.left.op)), (.string x12.left.term.var), (.int .i8 (x12.left.term.val.kind)), (.int .i64 (x12.left.term.val.num)), (.string x12.left.term.val.text), lk18, (.int .i8 (x12.right.op)), (.string x12.right.term.var), (.int .i8 (x12.right.term.val.kind)), (.int .i64 (x12.right.term.val.num)), (.string x12.right.term.val.text), rk19] ta74 ts74 rfl ((hr15.at st4).part 0 16) rfl ?_)
  refine W1 (OpT.alloc st4 (.agg #[(.int .i8 (0)), ve, vn, (.int .i8 (0)), (.int .i8 (0)), ve, (.int .i8 (0)), (ii 0), ve, vn, (.int .i8 (0)), ve, (.int .i8 (0)), (ii 0), ve, vn]) [(.int .i8 (0)), ve, vn, (.int .i8 (0)), (.int .i8 (0)), ve, (.int .i8 (0)), (ii 0), ve, vn, (.int .i8 (0)), ve, (.int .i8 (0)), (ii 0), ve, vn] tz74 rfl (fun b23 w24 st25 => ?_))
  refine WL.stepN (OpT.storeA st25 0 16 [(.int .i8 (x12.kind)), (.string x12.atom.pred), av17, (.int .i8 (x12.rel)), (.int .i8 (x12.left.op)), (.string x12.left.term.var), (.int .i8 (x12.left.term.val.kind)), (.int .i64 (x12.left.term.val.num)), (.string x12.left.term.val.text), lk18, (.int .i8 (x12.right.op)), (.string x12.right.term.var), (.int .i8 (x12.right.term.val.kind)), (.int .i64 (x12.right.term.val.num)), (.string x12.right.term.val.text), rk19] rfl ts74 rfl rfl (aC rfl (aC rfl (aC (Rl.sl_one ha20) (aC rfl (aC rfl (aC rfl (aC rfl (aC rfl (aC rfl (aC (Rl.sl_one hl21) (aC rfl (aC rfl (aC rfl (aC rfl (aC rfl (aC (Rl.sl_one hr22) aN)))))))))))))))) rfl rfl (fun w26 st27 => ?_))
  refine Wns ?_
  refine W1 (OpT.field 0 ⟨b23, 0, none⟩ ⟨b23, 0, none⟩ tf74_0 rfl rfl ?_)
  refine W1 (OpT.loadS ⟨b23, 0, none⟩ (.int .i8 (x12.kind)) ta59 rfl (st27.cellB (i := 0) rfl rfl) ?_)
  refine W1 (OpT.ieq .i8 (x12.kind) (1) rfl rfl ?_)
  refine W1 (OpT.move (.bool (decide (x12.kind = 1))) rfl ?_)
  by_cases h28 : x12.kind = 1
  ·refine WL.pass (dj := 15) (c := true) rfl rfl rfl (bT h28) rfl ?_
   refine WL.pass (dj := 15) (c := true) rfl rfl rfl (bT h28) rfl ?_
   refine WL.pass (dj := 15) (c := true) rfl rfl rfl (bT h28) rfl ?_
   refine W1 (OpT.pickT (.bool true) (bT h28) rfl ?_)
   refine Wnt ?_
   refine WC.condT rfl ?_
   refine WC.region ?_
   refine W1 (OpT.move (.func (.func k) #[] (cap).toArray) hs7 ?_)
   refine W1 (OpT.loadA ⟨b23, 0, none⟩ 16 [(.int .i8 (x12.kind)), (.string x12.atom.pred), av17, (.int .i8 (x12.rel)), (.int .i8 (x12.left.op)), (.string x12.left.term.var), (.int .i8 (x12.left.term.val.kind)), (.int .i64 (x12.left.term.val.num)), (.string x12.left.term.val.text), lk18, (.int .i8 (x12.right.op)), (.string x12.right.term.var), (.int .i8 (x12.right.term.val.kind)), (.int .i64 (x12.right.term.val.num)), (.string x12.right.term.val.text), rk19] ta74 ts74 rfl ((st27.rowB (i := 0) rfl).part 0 16) rfl ?_)
   refine W1 (OpT.callS ok [] cap ((.agg #[(.int .i8 (x12.kind)), (.string x12.atom.pred), av17, (.int .i8 (x12.rel)), (.int .i8 (x12.left.op)), (.string x12.left.term.var), (.int .i8 (x12.left.term.val.kind)), (.int .i64 (x12.left.term.val.num)), (.string x12.left.term.val.text), lk18, (.int .i8 (x12.right.op)), (.string x12.right.term.var), (.int .i8 (x12.right.term.val.kind)), (.int .i64 (x12.right.term.val.num)), (.string x12.right.term.val.text), rk19]) :: cap) rfl (ca1 rfl) (hp _ _ i x12 lv2 hx12 (by simp [isAtm, *]) ⟨_, _, _, rfl, ha20, hl21, hr22⟩ (St.perm (List.perm_middle (l₁ := J (fld f b (xs.take i)) lv2)).symm st27)) ?_)
   rintro v29 w30 ⟨rfl, lv32, st31⟩
   replace st31 := (St.perm List.perm_middle st31).tl
   refine WL.nil ?_
   refine blkQ_n ?_
   refine thenQ_n ?_
   refine WC.region ?_
   refine W1 (OpT.iadd .i64 (((i : Nat) : Int)) (1) (((i + 1 : Nat) : Int)) hs6 rfl (wadd (a := i) (b := 1) (by omega)) ?_)
   refine W1 (OpT.move (ni (i + 1)) rfl ?_)
   refine WL.nil ?_
   rw [← fld_in f b hx12 (by simp [isAtm, *])] at st31
   exact loopQ_n _ (by omega) ⟨i + 1, lv32, rfl, by omega, rfl, hs7, hs8, hs9, st31⟩
  refine W2 (dj := 15) (bF h28) (OpT.field 0 ⟨b23, 0, none⟩ ⟨b23, 0, none⟩ tf74_0 rfl rfl ?_)
  refine W2 (dj := 15) (bF h28) (OpT.loadS ⟨b23, 0, none⟩ (.int .i8 (x12.kind)) ta59 rfl (st27.cellB (i := 0) rfl rfl) ?_)
  refine W2 (dj := 15) (bF h28) (OpT.ieq .i8 (x12.kind) (2) rfl rfl ?_)
  refine W1 (OpT.pickF (.bool (decide (x12.kind = 2))) (bF h28) rfl ?_)
  refine Wnt ?_
  refine WC.condP (x12.kind = 2) rfl (fun h33 => ?_) (fun h33 => ?_)
  ·refine WC.region ?_
   refine W1 (OpT.move (.func (.func k) #[] (cap).toArray) hs7 ?_)
   refine W1 (OpT.loadA ⟨b23, 0, none⟩ 16 [(.int .i8 (x12.kind)), (.string x12.atom.pred), av17, (.int .i8 (x12.rel)), (.int .i8 (x12.left.op)), (.string x12.left.term.var), (.int .i8 (x12.left.term.val.kind)), (.int .i64 (x12.left.term.val.num)), (.string x12.left.term.val.text), lk18, (.int .i8 (x12.right.op)), (.string x12.right.term.var), (.int .i8 (x12.right.term.val.kind)), (.int .i64 (x12.right.term.val.num)), (.string x12.right.term.val.text), rk19] ta74 ts74 rfl ((st27.rowB (i := 0) rfl).part 0 16) rfl ?_)
   refine W1 (OpT.callS ok [] cap ((.agg #[(.int .i8 (x12.kind)), (.string x12.atom.pred), av17, (.int .i8 (x12.rel)), (.int .i8 (x12.left.op)), (.string x12.left.term.var), (.int .i8 (x12.left.term.val.kind)), (.int .i64 (x12.left.term.val.num)), (.string x12.left.term.val.text), lk18, (.int .i8 (x12.right.op)), (.string x12.right.term.var), (.int .i8 (x12.right.term.val.kind)), (.int .i64 (x12.right.term.val.num)), (.string x12.right.term.val.text), rk19]) :: cap) rfl (ca1 rfl) (hp _ _ i x12 lv2 hx12 (by simp [isAtm, *]) ⟨_, _, _, rfl, ha20, hl21, hr22⟩ (St.perm (List.perm_middle (l₁ := J (fld f b (xs.take i)) lv2)).symm st27)) ?_)
   rintro v34 w35 ⟨rfl, lv37, st36⟩
   replace st36 := (St.perm List.perm_middle st36).tl
   refine WL.nil ?_
   refine blkQ_n ?_
   refine thenQ_n ?_
   refine WC.region ?_
   refine W1 (OpT.iadd .i64 (((i : Nat) : Int)) (1) (((i + 1 : Nat) : Int)) hs6 rfl (wadd (a := i) (b := 1) (by omega)) ?_)
   refine W1 (OpT.move (ni (i + 1)) rfl ?_)
   refine WL.nil ?_
   rw [← fld_in f b hx12 (by simp [isAtm, *])] at st36
   exact loopQ_n _ (by omega) ⟨i + 1, lv37, rfl, by omega, rfl, hs7, hs8, hs9, st36⟩
  refine WC.skip ?_
  refine blkQ_n ?_
  refine thenQ_n ?_
  refine WC.region ?_
  refine W1 (OpT.iadd .i64 (((i : Nat) : Int)) (1) (((i + 1 : Nat) : Int)) hs6 rfl (wadd (a := i) (b := 1) (by omega)) ?_)
  refine W1 (OpT.move (ni (i + 1)) rfl ?_)
  refine WL.nil ?_
  replace st27 := st27.tl
  rw [← fld_out f b hx12 (by simp [isAtm, *])] at st27
  exact loopQ_n _ (by omega) ⟨i + 1, lv2, rfl, by omega, rfl, hs7, hs8, hs9, st27⟩
 refine WC.exit ?_
 refine thenQ_x ?_
 refine loopQ_x ?_
 refine blkQ_hit ?_
 refine retQ.none (.inl rfl) ?_
 exact ⟨_, rfl, rfl, lv2, by rw [show xs = xs.take i from (List.take_of_length_le (by omega)).symm]; exact st4⟩

end Go.Ped
set_option linter.unusedVariables false
set_option maxRecDepth 20000
namespace Go.Ped
open Go Go.Eng Go.RowKit Go.Proofs

theorem ta33 : aggB Tryz.prog 33 = some false := by kernel_rfl
theorem tp35 : placesB Tryz.prog 35 = some [(0, 1), (1, 1), (2, 1), (3, 1)] := by kernel_rfl
theorem tz35 : zeroB Tryz.prog 35 = some (.agg #[(.string (⟨#[]⟩ : ByteArray)), (.string (⟨#[]⟩ : ByteArray)), (.int .i8 (0)), (.int .i64 (0))]) := by kernel_rfl
theorem ts35 : sizeB Tryz.prog 35 = some 4 := by kernel_rfl
theorem tf35_2 : fieldB Tryz.prog 35 2 = some 2 := by kernel_rfl
theorem ts33 : sizeB Tryz.prog 33 = some 1 := by kernel_rfl
theorem ta26 : aggB Tryz.prog 26 = some false := by kernel_rfl
theorem ta35 : aggB Tryz.prog 35 = some true := by kernel_rfl
theorem tu26 : Tryz.prog.underlying 26 = some (.slice 35) := by kernel_rfl
theorem tb35 : (Tryz.prog.info? 35).map (·.bytes) = some 48 := by kernel_rfl
theorem ts26 : sizeB Tryz.prog 26 = some 1 := by kernel_rfl
def ecs (e : Edg) : List Value := [.string e.frm, .string e.to, .int .i8 e.kind, .int .i64 e.rule]
def edgOf (p : ByteArray) (kd i : Int) (x : Ltr) : Edg := ⟨p, x.atom.pred, if x.kind = 2 then 2 else kd, i⟩
abbrev EJ (rb kb ib ob : Nat) (p : ByteArray) (a b : Value) (kd i : Int) (es : List Edg) (lv : Value) : List Res :=
  [Blk rb 54 [.string p, a, b], Blk kb 33 [.int .i8 kd], Blk ib 3 [.int .i64 i], Blk ob 26 [lv], Row 35 4 lv es.length (es.flatMap ecs)]
theorem Edges1_spec {Z : Nat → Prop} {w0 w : World} {L : List Res} {rb kb ib ob : Nat} {lv a b : Value} {r : Rul} {kd i : Int} {es : List Edg} (ha : rAgr.sl Z w0 a r.head) (hb : rLtr.sl Z w0 b r.body) (st : St Z w0 w (EJ rb kb ib ob r.pred a b kd i es lv ++ L)) (he : es.length < 1048576) (x : Ltr) (av lk rk : Value) (hc : rTrm.sl Z w0 av x.atom.args) (hl : rExp.sl Z w0 lk x.left.kids) (hr : rExp.sl Z w0 rk x.right.kids) : Calls Tryz.prog 25 #[(.agg #[(.int .i8 (x.kind)), (.string x.atom.pred), av, (.int .i8 (x.rel)), (.int .i8 (x.left.op)), (.string x.left.term.var), (.int .i8 (x.left.term.val.kind)), (.int .i64 (x.left.term.val.num)), (.string x.left.term.val.text), lk, (.int .i8 (x.right.op)), (.string x.right.term.var), (.int .i8 (x.right.term.val.kind)), (.int .i64 (x.right.term.val.num)), (.string x.right.term.val.text), rk]), (pt rb 0), (pt kb 0), (pt ib 0), (pt ob 0)] w (Ret fun v w' => v = .tuple #[] ∧ ∃ lv', St Z w0 w' (EJ rb kb ib ob r.pred a b kd i (es ++ [edgOf r.pred kd i x]) lv' ++ L)) := by
 have olv := st.rowOne (i := 4) rfl
 have clv := st.rowCel (i := 4) rfl
 refine calls_of_WC (m := 23) (rs := []) Tryz.func25 rfl rfl rfl rfl ?_
 refine Wsr ?_
 refine W1 (OpT.box st (.agg #[(.int .i8 (x.kind)), (.string x.atom.pred), av, (.int .i8 (x.rel)), (.int .i8 (x.left.op)), (.string x.left.term.var), (.int .i8 (x.left.term.val.kind)), (.int .i64 (x.left.term.val.num)), (.string x.left.term.val.text), lk, (.int .i8 (x.right.op)), (.string x.right.term.var), (.int .i8 (x.right.term.val.kind)), (.int .i64 (x.right.term.val.num)), (.string x.right.term.val.text), rk]) [(.int .i8 (x.kind)), (.string x.atom.pred), av, (.int .i8 (x.rel)), (.int .i8 (x.left.op)), (.string x.left.term.var), (.int .i8 (x.left.term.val.kind)), (.int .i64 (x.left.term.val.num)), (.string x.left.term.val.text), lk, (.int .i8 (x.right.op)), (.string x.right.term.var), (.int .i8 (x.right.term.val.kind)), (.int .i64 (x.right.term.val.num)), (.string x.right.term.val.text), rk] rfl rfl (fun b1 w2 st3 => ?_))
 refine Wns ?_
 refine W1 (OpT.field 0 ⟨rb, 0, none⟩ ⟨rb, 0, none⟩ tf54_0 rfl rfl ?_)
 refine W1 (OpT.loadS ⟨rb, 0, none⟩ (.string r.pred) ta9 rfl (st3.cellB (i := 1) rfl rfl) ?_)
 refine W1 (OpT.field 1 ⟨b1, 0, none⟩ ⟨b1, 1, none⟩ tf74_1 rfl rfl ?_)
 refine W1 (OpT.field 0 ⟨b1, 1, none⟩ ⟨b1, 1, none⟩ tf62_0 rfl rfl ?_)
 refine W1 (OpT.loadS ⟨b1, 1, none⟩ (.string x.atom.pred) ta9 rfl (st3.cellB (i := 0) rfl rfl) ?_)
 refine W1 (OpT.loadS ⟨kb, 0, none⟩ (.int .i8 (kd)) ta33 rfl (st3.cellB (i := 2) rfl rfl) ?_)
 refine W1 (OpT.loadS ⟨ib, 0, none⟩ (.int .i64 (i)) ta3 rfl (st3.cellB (i := 3) rfl rfl) ?_)
 refine W1 (OpT.build [(0, (.string r.pred)), (1, (.string x.atom.pred)), (2, (.int .i8 (kd))), (3, (.int .i64 (i)))] [(.string r.pred), (.string x.atom.pred), (.int .i8 (kd)), (.int .i64 (i))] tz35 tp35 (mp4 rfl rfl rfl rfl) rfl ?_)
 refine W1 (OpT.alloc st3 (.agg #[ve, ve, (.int .i8 (0)), (ii 0)]) [ve, ve, (.int .i8 (0)), (ii 0)] tz35 rfl (fun b4 w5 st6 => ?_))
 refine WL.stepN (OpT.storeA st6 0 4 [(.string r.pred), (.string x.atom.pred), (.int .i8 (kd)), (.int .i64 (i))] rfl ts35 rfl rfl rfl rfl rfl (fun w7 st8 => ?_))
 refine Wnt ?_
 refine WC.seq ?_
 refine Wsr ?_
 refine W1 (OpT.field 0 ⟨b1, 0, none⟩ ⟨b1, 0, none⟩ tf74_0 rfl rfl ?_)
 refine W1 (OpT.loadS ⟨b1, 0, none⟩ (.int .i8 (x.kind)) ta59 rfl (st8.cellB (i := 1) rfl rfl) ?_)
 refine W1 (OpT.ieq .i8 (x.kind) (2) rfl rfl ?_)
 refine Wnt ?_
 refine WC.condP (x.kind = 2) rfl (fun h9 => ?_) (fun h9 => ?_)
 ·refine WC.region ?_
  refine W1 (OpT.field 2 ⟨b4, 0, none⟩ ⟨b4, 2, none⟩ tf35_2 rfl rfl ?_)
  refine WL.stepN (OpT.storeS st8 0 (.int .i8 (2)) rfl ts33 rfl rfl rfl rfl rfl (fun w10 st11 => ?_))
  refine Wnr ?_
  refine W1 (OpT.loadS ⟨ob, 0, none⟩ lv ta26 rfl (st11.cellB (i := 5) rfl rfl) ?_)
  refine W1 (OpT.loadA ⟨b4, 0, none⟩ 4 [(.string r.pred), (.string x.atom.pred), (.int .i8 (2)), (.int .i64 (i))] ta35 ts35 rfl ((st11.rowB (i := 0) rfl).part 0 4) rfl ?_)
  refine W1 (OpT.buildSlice st11 [(0, (.agg #[(.string r.pred), (.string x.atom.pred), (.int .i8 (2)), (.int .i64 (i))]))] [(.string r.pred), (.string x.atom.pred), (.int .i8 (2)), (.int .i64 (i))] tu26 ts35 tz35 (mp1 rfl) (by kernel_rfl) (by decide) (fun b12 w13 st14 => ?_))
  have st15 : St Z w0 w13 (Blk b12 35 [(.string r.pred), (.string x.atom.pred), (.int .i8 (2)), (.int .i64 (i))] :: Row 35 4 lv es.length (es.flatMap ecs) :: Blk b4 35 [(.string r.pred), (.string x.atom.pred), (.int .i8 (2)), (.int .i64 (i))] :: Blk b1 74 [(.int .i8 (x.kind)), (.string x.atom.pred), av, (.int .i8 (x.rel)), (.int .i8 (x.left.op)), (.string x.left.term.var), (.int .i8 (x.left.term.val.kind)), (.int .i64 (x.left.term.val.num)), (.string x.left.term.val.text), lk, (.int .i8 (x.right.op)), (.string x.right.term.var), (.int .i8 (x.right.term.val.kind)), (.int .i64 (x.right.term.val.num)), (.string x.right.term.val.text), rk] :: Blk rb 54 [(.string r.pred), a, b] :: Blk kb 33 [(.int .i8 (kd))] :: Blk ib 3 [(.int .i64 (i))] :: Blk ob 26 [lv] :: L) := St.selT [Blk b12 35 [(.string r.pred), (.string x.atom.pred), (.int .i8 (2)), (.int .i64 (i))], Blk b4 35 [(.string r.pred), (.string x.atom.pred), (.int .i8 (2)), (.int .i64 (i))], Blk b1 74 [(.int .i8 (x.kind)), (.string x.atom.pred), av, (.int .i8 (x.rel)), (.int .i8 (x.left.op)), (.string x.left.term.var), (.int .i8 (x.left.term.val.kind)), (.int .i64 (x.left.term.val.num)), (.string x.left.term.val.text), lk, (.int .i8 (x.right.op)), (.string x.right.term.var), (.int .i8 (x.right.term.val.kind)), (.int .i64 (x.right.term.val.num)), (.string x.right.term.val.text), rk], Blk rb 54 [(.string r.pred), a, b], Blk kb 33 [(.int .i8 (kd))], Blk ib 3 [(.int .i64 (i))], Blk ob 26 [lv], Row 35 4 lv es.length (es.flatMap ecs)] [0, 7, 1, 2, 3, 4, 5, 6] rfl (by decide) st14
  refine W1 (OpT.append st15 1 tu26 ts35 tz35 rfl tb35 (by decide) rfl rfl rfl rfl (by omega) (by omega) (fun v16 w17 st18 hn19 => ?_))
  have o20 := st18.rowOne (i := 0) rfl
  have c21 := st18.rowCel (i := 0) rfl
  refine WL.stepN (OpT.storeS st18 6 v16 rfl ts26 rfl rfl o20 c21 rfl (fun w22 st23 => ?_))
  refine WL.nil ?_
  refine retQ.none (.inl rfl) ?_
  refine ⟨_, rfl, rfl, v16, ?_⟩
  rw [show edgOf r.pred kd i x = ⟨r.pred, x.atom.pred, 2, i⟩ from by simp [edgOf, *]]
  simp only [EJ, List.flatMap_append, List.length_append, List.length_cons, List.length_nil, List.flatMap_cons, List.flatMap_nil, List.append_nil]
  exact (St.selT [Row 35 4 v16 (es.length + 1) ((es.flatMap ecs) ++ [(.string r.pred), (.string x.atom.pred), (.int .i8 (2)), (.int .i64 (i))]), Blk b4 35 [(.string r.pred), (.string x.atom.pred), (.int .i8 (2)), (.int .i64 (i))], Blk b1 74 [(.int .i8 (x.kind)), (.string x.atom.pred), av, (.int .i8 (x.rel)), (.int .i8 (x.left.op)), (.string x.left.term.var), (.int .i8 (x.left.term.val.kind)), (.int .i64 (x.left.term.val.num)), (.string x.left.term.val.text), lk, (.int .i8 (x.right.op)), (.string x.right.term.var), (.int .i8 (x.right.term.val.kind)), (.int .i64 (x.right.term.val.num)), (.string x.right.term.val.text), rk], Blk rb 54 [(.string r.pred), a, b], Blk kb 33 [(.int .i8 (kd))], Blk ib 3 [(.int .i64 (i))], Blk ob 26 [v16]] [3, 4, 5, 6, 0] rfl (by decide) st23)
 refine WC.skip ?_
 refine thenQ_n ?_
 refine WC.region ?_
 refine W1 (OpT.loadS ⟨ob, 0, none⟩ lv ta26 rfl (st8.cellB (i := 5) rfl rfl) ?_)
 refine W1 (OpT.loadA ⟨b4, 0, none⟩ 4 [(.string r.pred), (.string x.atom.pred), (.int .i8 (kd)), (.int .i64 (i))] ta35 ts35 rfl ((st8.rowB (i := 0) rfl).part 0 4) rfl ?_)
 refine W1 (OpT.buildSlice st8 [(0, (.agg #[(.string r.pred), (.string x.atom.pred), (.int .i8 (kd)), (.int .i64 (i))]))] [(.string r.pred), (.string x.atom.pred), (.int .i8 (kd)), (.int .i64 (i))] tu26 ts35 tz35 (mp1 rfl) (by kernel_rfl) (by decide) (fun b24 w25 st26 => ?_))
 have st27 : St Z w0 w25 (Blk b24 35 [(.string r.pred), (.string x.atom.pred), (.int .i8 (kd)), (.int .i64 (i))] :: Row 35 4 lv es.length (es.flatMap ecs) :: Blk b4 35 [(.string r.pred), (.string x.atom.pred), (.int .i8 (kd)), (.int .i64 (i))] :: Blk b1 74 [(.int .i8 (x.kind)), (.string x.atom.pred), av, (.int .i8 (x.rel)), (.int .i8 (x.left.op)), (.string x.left.term.var), (.int .i8 (x.left.term.val.kind)), (.int .i64 (x.left.term.val.num)), (.string x.left.term.val.text), lk, (.int .i8 (x.right.op)), (.string x.right.term.var), (.int .i8 (x.right.term.val.kind)), (.int .i64 (x.right.term.val.num)), (.string x.right.term.val.text), rk] :: Blk rb 54 [(.string r.pred), a, b] :: Blk kb 33 [(.int .i8 (kd))] :: Blk ib 3 [(.int .i64 (i))] :: Blk ob 26 [lv] :: L) := St.selT [Blk b24 35 [(.string r.pred), (.string x.atom.pred), (.int .i8 (kd)), (.int .i64 (i))], Blk b4 35 [(.string r.pred), (.string x.atom.pred), (.int .i8 (kd)), (.int .i64 (i))], Blk b1 74 [(.int .i8 (x.kind)), (.string x.atom.pred), av, (.int .i8 (x.rel)), (.int .i8 (x.left.op)), (.string x.left.term.var), (.int .i8 (x.left.term.val.kind)), (.int .i64 (x.left.term.val.num)), (.string x.left.term.val.text), lk, (.int .i8 (x.right.op)), (.string x.right.term.var), (.int .i8 (x.right.term.val.kind)), (.int .i64 (x.right.term.val.num)), (.string x.right.term.val.text), rk], Blk rb 54 [(.string r.pred), a, b], Blk kb 33 [(.int .i8 (kd))], Blk ib 3 [(.int .i64 (i))], Blk ob 26 [lv], Row 35 4 lv es.length (es.flatMap ecs)] [0, 7, 1, 2, 3, 4, 5, 6] rfl (by decide) st26
 refine W1 (OpT.append st27 1 tu26 ts35 tz35 rfl tb35 (by decide) rfl rfl rfl rfl (by omega) (by omega) (fun v28 w29 st30 hn31 => ?_))
 have o32 := st30.rowOne (i := 0) rfl
 have c33 := st30.rowCel (i := 0) rfl
 refine WL.stepN (OpT.storeS st30 6 v28 rfl ts26 rfl rfl o32 c33 rfl (fun w34 st35 => ?_))
 refine WL.nil ?_
 refine retQ.none (.inl rfl) ?_
 refine ⟨_, rfl, rfl, v28, ?_⟩
 rw [show edgOf r.pred kd i x = ⟨r.pred, x.atom.pred, kd, i⟩ from by simp [edgOf, *]]
 simp only [EJ, List.flatMap_append, List.length_append, List.length_cons, List.length_nil, List.flatMap_cons, List.flatMap_nil, List.append_nil]
 exact (St.selT [Row 35 4 v28 (es.length + 1) ((es.flatMap ecs) ++ [(.string r.pred), (.string x.atom.pred), (.int .i8 (kd)), (.int .i64 (i))]), Blk b4 35 [(.string r.pred), (.string x.atom.pred), (.int .i8 (kd)), (.int .i64 (i))], Blk b1 74 [(.int .i8 (x.kind)), (.string x.atom.pred), av, (.int .i8 (x.rel)), (.int .i8 (x.left.op)), (.string x.left.term.var), (.int .i8 (x.left.term.val.kind)), (.int .i64 (x.left.term.val.num)), (.string x.left.term.val.text), lk, (.int .i8 (x.right.op)), (.string x.right.term.var), (.int .i8 (x.right.term.val.kind)), (.int .i64 (x.right.term.val.num)), (.string x.right.term.val.text), rk], Blk rb 54 [(.string r.pred), a, b], Blk kb 33 [(.int .i8 (kd))], Blk ib 3 [(.int .i64 (i))], Blk ob 26 [v28]] [3, 4, 5, 6, 0] rfl (by decide) st35)

end Go.Ped
