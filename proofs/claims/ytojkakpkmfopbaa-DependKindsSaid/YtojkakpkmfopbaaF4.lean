/- slices.IndexFunc, slices.ContainsFunc. -/
import Derived.Test.YtojkakpkmfopbaaEngG
import Derived.Test.YtojkakpkmfopbaaF3
set_option linter.unusedVariables false
set_option maxRecDepth 20000
namespace Go.Ped
open Go Go.Eng Go.RowKit Go.Proofs

theorem tu28 : Try.prog.underlying 28 = some (.slice 40) := by kernel_rfl
theorem ts40 : sizeB Try.prog 40 = some 5 := by kernel_rfl
theorem ta40 : aggB Try.prog 40 = some true := by kernel_rfl
theorem cal41 : CallOk Try.prog 41 := ⟨⟨Try.f41, Try.func41, rfl, by decide⟩⟩
theorem tu52 : Try.prog.underlying 52 = some (.slice 38) := by kernel_rfl
theorem cal73 : CallOk Try.prog 73 := ⟨⟨Try.f73, Try.func73, rfl, by decide⟩⟩
theorem tu57 : Try.prog.underlying 57 = some (.slice 59) := by kernel_rfl
theorem ts59 : sizeB Try.prog 59 = some 6 := by kernel_rfl
theorem ta59 : aggB Try.prog 59 = some true := by kernel_rfl
theorem cal88 : CallOk Try.prog 88 := ⟨⟨Try.f88, Try.func88, rfl, by decide⟩⟩
theorem tu22 : Try.prog.underlying 22 = some (.slice 31) := by kernel_rfl
theorem ts31 : sizeB Try.prog 31 = some 3 := by kernel_rfl
theorem ta31 : aggB Try.prog 31 = some true := by kernel_rfl
theorem cal54 : CallOk Try.prog 54 := ⟨⟨Try.f54, Try.func54, rfl, by decide⟩⟩
def idxOf {α : Type} (p : α → Bool) (xs : List α) : Int := match xs.findIdx? p with | some i => (i : Int) | none => -1
theorem idxOf_any {α : Type} (p : α → Bool) (xs : List α) : decide (0 ≤ idxOf p xs) = xs.any p := by
  unfold idxOf
  rw [Bool.eq_iff_iff]
  simp only [decide_eq_true_eq]
  cases h : xs.findIdx? p with
  | none =>
    have := List.findIdx?_eq_none_iff.1 h
    simp only [List.any_eq_true]
    constructor
    · intro h; omega
    · rintro ⟨x, hx, hp⟩; rw [this x hx] at hp; cases hp
  | some i =>
    simp only [List.any_eq_true]
    obtain ⟨hi, hp, _⟩ := List.findIdx?_eq_some_iff_getElem.1 h
    constructor
    · intro _; exact ⟨xs[i], List.getElem_mem hi, hp⟩
    · intro _; omega
theorem idxOf_none {α : Type} (p : α → Bool) (xs : List α) (h : ∀ j x, j < xs.length → xs[j]? = some x → p x = false) : idxOf p xs = -1 := by
  unfold idxOf
  rw [List.findIdx?_eq_none_iff.2]
  intro x hx
  obtain ⟨j, hj, rfl⟩ := List.getElem_of_mem hx
  exact h j _ hj (List.getElem?_eq_getElem hj)
theorem idxOf_some {α : Type} (p : α → Bool) (xs : List α) (k : Nat) (x : α) (hx : xs[k]? = some x) (h : ∀ j x, j < k → xs[j]? = some x → p x = false) (hp : p x = true) : idxOf p xs = k := by
  unfold idxOf
  obtain ⟨hk, rfl⟩ := List.getElem?_eq_some_iff.1 hx
  rw [List.findIdx?_eq_some_iff_getElem.2 ⟨hk, hp, fun j hj => by
    have := h j (xs[j]'(by omega)) hj (List.getElem?_eq_getElem (by omega))
    simp [this]⟩]
theorem IndexFunc_Agr {Z : Nat → Prop} {w0 w : World} {L : List Res} (st : St Z w0 w L) {v : Value} {xs : List Agr} (h : rAgr.sl Z w0 v xs) (k : Nat) (ok : CallOk Try.prog k) (cap : List Value) (p : Agr → Bool) (hp : ∀ (w' : World) (cs : List Value) (x : Agr), x ∈ xs → St Z w0 w' L → rAgr.R Z w0 cs x → Calls Try.prog k (.agg cs.toArray :: cap).toArray w' (Ret fun r w'' => r = .bool (p x) ∧ St Z w0 w'' L)) : Calls Try.prog 41 #[v, (.func (.func k) #[] (cap).toArray)] w (Ret fun r w' => r = .int .i64 (idxOf p xs) ∧ St Z w0 w' L) := by
 refine calls_of_WC (m := 19) (rs := [.tmp 4]) Try.func41 rfl rfl rfl rfl ?_
 refine Wsr ?_
 refine W1 (OpT.assign (ii 0) rfl ?_)
 refine Wnt ?_
 refine WC.seq ?_
 refine Wsr ?_
 refine W1 (OpT.move v rfl ?_)
 refine W1 (OpT.lenR rfl tu28 h rfl ?_)
 refine W1 (OpT.move (ii 0) rfl ?_)
 refine Wnt ?_
 refine WC.block ?_
 refine WC.loop (fun m ρ wz => ∃ (i : Nat), m = xs.length - i ∧ i ≤ xs.length ∧ Hid (∀ (j : Nat) x, j < i → xs[j]? = some x → p x = false) ∧ ρ 8 = (ni i) ∧ ρ 0 = v ∧ ρ 1 = (.func (.func k) #[] (cap).toArray) ∧ ρ 7 = (ni (xs.length)) ∧ St Z w0 wz (L)) _ ⟨0, rfl, by omega, fun j x hj => absurd hj (Nat.not_lt_zero _), rfl, rfl, rfl, rfl, st⟩ ?_
 rintro m1 ρ2 w3 ⟨i, hm10, hp5, HP, hs6, hs7, hs8, hs9, st4⟩
 have hxl := Rl.sl_le h
 refine Wsr ?_
 refine W1 (OpT.ilt .i64 (((i : Nat) : Int)) (((xs.length : Nat) : Int)) hs6 hs9 ?_)
 refine Wnt ?_
 refine WC.seq ?_
 refine WC.condP (((i : Nat) : Int) < ((xs.length : Nat) : Int)) rfl (fun h11 => ?_) (fun h11 => ?_)
 ·refine WC.skip ?_
  refine thenQ_n ?_
  refine WC.seq ?_
  refine WC.block ?_
  refine Wsr ?_
  refine W1 (OpT.move (ni i) hs6 ?_)
  refine W1 (OpT.assign (ni i) rfl ?_)
  refine Wns ?_
  refine W1 (OpT.move (.func (.func k) #[] (cap).toArray) hs8 ?_)
  refine W1 (OpT.move v hs7 ?_)
  refine W1 (OpT.move (ni i) rfl ?_)
  obtain ⟨x12, hx12⟩ : ∃ x, (xs)[i]? = some x := ⟨_, List.getElem?_eq_getElem (by omega)⟩
  refine W1 (OpT.idxX tu28 ts40 h rfl .i64 (i) rfl hx12 (fun ad13 cs14 hr15 hR16 => ?_))
  have hR16c := hR16
  obtain rfl := hR16
  refine W1 (OpT.loadA ad13 5 [(.int .i8 (x12.agg)), (.string x12.term.var), (.int .i8 (x12.term.val.kind)), (.int .i64 (x12.term.val.num)), (.string x12.term.val.text)] ta40 ts40 rfl ((hr15.at st4).part 0 5) rfl ?_)
  refine W1 (OpT.callS ok [] cap ((.agg #[(.int .i8 (x12.agg)), (.string x12.term.var), (.int .i8 (x12.term.val.kind)), (.int .i64 (x12.term.val.num)), (.string x12.term.val.text)]) :: cap) rfl (ca1 rfl) (hp _ _ _ (List.mem_of_getElem? hx12) st4 hR16c) ?_)
  rintro v17 w18 ⟨rfl, st19⟩
  refine Wnt ?_
  refine WC.cond ((p x12)) rfl (fun h20 => ?_) (fun h20 => ?_)
  ·refine WC.seq ?_
   refine WC.region ?_
   refine W1 (OpT.move (ni i) rfl ?_)
   refine W1 (OpT.assign (ni i) rfl ?_)
   refine Wnt ?_
   refine WC.ret <| blkQ_r <| thenQ_r <| loopQ_r <| blkQ_r <| thenQ_r <| retQ.one (ni i) rfl ?_
   exact ⟨_, rfl, by rw [idxOf_some p xs i _ hx12 HP.out ‹_›], st19⟩
  refine WC.skip ?_
  refine blkQ_n ?_
  refine thenQ_n ?_
  refine WC.region ?_
  refine W1 (OpT.iadd .i64 (((i : Nat) : Int)) (1) (((i + 1 : Nat) : Int)) hs6 rfl (wadd (a := i) (b := 1) (by omega)) ?_)
  refine W1 (OpT.move (ni (i + 1)) rfl ?_)
  refine WL.nil ?_
  exact loopQ_n _ (by omega) ⟨i + 1, rfl, by omega, fun j x hj hx => by
        rcases Nat.lt_succ_iff_lt_or_eq.1 hj with hj | rfl
        · exact HP.out j x hj hx
        · rw [hx12] at hx; cases hx; assumption, rfl, hs7, hs8, hs9, st19⟩
 refine WC.exit ?_
 refine thenQ_x ?_
 refine loopQ_x ?_
 refine blkQ_hit ?_
 refine thenQ_n ?_
 refine Wsr ?_
 refine W1 (OpT.assign (ii (-1)) rfl ?_)
 refine Wnt ?_
 refine WC.ret <| retQ.one (ii (-1)) rfl ?_
 exact ⟨_, rfl, by rw [idxOf_none p xs (fun j x hj hx => HP.out j x (by omega) hx)], st4⟩

theorem ContainsFunc_Agr {Z : Nat → Prop} {w0 w : World} {L : List Res} (st : St Z w0 w L) {v : Value} {xs : List Agr} (h : rAgr.sl Z w0 v xs) (k : Nat) (ok : CallOk Try.prog k) (cap : List Value) (p : Agr → Bool) (hp : ∀ (w' : World) (cs : List Value) (x : Agr), x ∈ xs → St Z w0 w' L → rAgr.R Z w0 cs x → Calls Try.prog k (.agg cs.toArray :: cap).toArray w' (Ret fun r w'' => r = .bool (p x) ∧ St Z w0 w'' L)) : Calls Try.prog 24 #[v, (.func (.func k) #[] (cap).toArray)] w (Ret fun r w' => r = .bool (xs.any p) ∧ St Z w0 w' L) := by
 refine calls_of_WC (m := 9) (rs := [.tmp 4]) Try.func24 rfl rfl rfl rfl ?_
 refine Wsr ?_
 refine W1 (OpT.assign (.bool false) rfl ?_)
 refine Wns ?_
 refine W1 (OpT.move v rfl ?_)
 refine W1 (OpT.move (.func (.func k) #[] (cap).toArray) rfl ?_)
 refine W1 (OpT.callS cal41 [] [] [v, (.func (.func k) #[] (cap).toArray)] rfl (ca2 rfl rfl) (IndexFunc_Agr st h k ok cap p hp) ?_)
 rintro v1 w2 ⟨rfl, st3⟩
 refine W1 (OpT.ige .i64 (idxOf p xs) (0) rfl rfl ?_)
 refine W1 (OpT.assign (.bool (decide (0 ≤ (idxOf p xs)))) rfl ?_)
 refine Wnt ?_
 refine WC.ret <| retQ.one (.bool (decide (0 ≤ (idxOf p xs)))) rfl ?_
 exact ⟨_, rfl, by rw [idxOf_any], st3⟩

theorem IndexFunc_Trm {Z : Nat → Prop} {w0 w : World} {L : List Res} (st : St Z w0 w L) {v : Value} {xs : List Trm} (h : rTrm.sl Z w0 v xs) (k : Nat) (ok : CallOk Try.prog k) (cap : List Value) (p : Trm → Bool) (hp : ∀ (w' : World) (cs : List Value) (x : Trm), x ∈ xs → St Z w0 w' L → rTrm.R Z w0 cs x → Calls Try.prog k (.agg cs.toArray :: cap).toArray w' (Ret fun r w'' => r = .bool (p x) ∧ St Z w0 w'' L)) : Calls Try.prog 73 #[v, (.func (.func k) #[] (cap).toArray)] w (Ret fun r w' => r = .int .i64 (idxOf p xs) ∧ St Z w0 w' L) := by
 refine calls_of_WC (m := 19) (rs := [.tmp 4]) Try.func73 rfl rfl rfl rfl ?_
 refine Wsr ?_
 refine W1 (OpT.assign (ii 0) rfl ?_)
 refine Wnt ?_
 refine WC.seq ?_
 refine Wsr ?_
 refine W1 (OpT.move v rfl ?_)
 refine W1 (OpT.lenR rfl tu52 h rfl ?_)
 refine W1 (OpT.move (ii 0) rfl ?_)
 refine Wnt ?_
 refine WC.block ?_
 refine WC.loop (fun m ρ wz => ∃ (i : Nat), m = xs.length - i ∧ i ≤ xs.length ∧ Hid (∀ (j : Nat) x, j < i → xs[j]? = some x → p x = false) ∧ ρ 8 = (ni i) ∧ ρ 0 = v ∧ ρ 1 = (.func (.func k) #[] (cap).toArray) ∧ ρ 7 = (ni (xs.length)) ∧ St Z w0 wz (L)) _ ⟨0, rfl, by omega, fun j x hj => absurd hj (Nat.not_lt_zero _), rfl, rfl, rfl, rfl, st⟩ ?_
 rintro m1 ρ2 w3 ⟨i, hm10, hp5, HP, hs6, hs7, hs8, hs9, st4⟩
 have hxl := Rl.sl_le h
 refine Wsr ?_
 refine W1 (OpT.ilt .i64 (((i : Nat) : Int)) (((xs.length : Nat) : Int)) hs6 hs9 ?_)
 refine Wnt ?_
 refine WC.seq ?_
 refine WC.condP (((i : Nat) : Int) < ((xs.length : Nat) : Int)) rfl (fun h11 => ?_) (fun h11 => ?_)
 ·refine WC.skip ?_
  refine thenQ_n ?_
  refine WC.seq ?_
  refine WC.block ?_
  refine Wsr ?_
  refine W1 (OpT.move (ni i) hs6 ?_)
  refine W1 (OpT.assign (ni i) rfl ?_)
  refine Wns ?_
  refine W1 (OpT.move (.func (.func k) #[] (cap).toArray) hs8 ?_)
  refine W1 (OpT.move v hs7 ?_)
  refine W1 (OpT.move (ni i) rfl ?_)
  obtain ⟨x12, hx12⟩ : ∃ x, (xs)[i]? = some x := ⟨_, List.getElem?_eq_getElem (by omega)⟩
  refine W1 (OpT.idxX tu52 ts38 h rfl .i64 (i) rfl hx12 (fun ad13 cs14 hr15 hR16 => ?_))
  have hR16c := hR16
  obtain rfl := hR16
  refine W1 (OpT.loadA ad13 4 [(.string x12.var), (.int .i8 (x12.val.kind)), (.int .i64 (x12.val.num)), (.string x12.val.text)] ta38 ts38 rfl ((hr15.at st4).part 0 4) rfl ?_)
  refine W1 (OpT.callS ok [] cap ((.agg #[(.string x12.var), (.int .i8 (x12.val.kind)), (.int .i64 (x12.val.num)), (.string x12.val.text)]) :: cap) rfl (ca1 rfl) (hp _ _ _ (List.mem_of_getElem? hx12) st4 hR16c) ?_)
  rintro v17 w18 ⟨rfl, st19⟩
  refine Wnt ?_
  refine WC.cond ((p x12)) rfl (fun h20 => ?_) (fun h20 => ?_)
  ·refine WC.seq ?_
   refine WC.region ?_
   refine W1 (OpT.move (ni i) rfl ?_)
   refine W1 (OpT.assign (ni i) rfl ?_)
   refine Wnt ?_
   refine WC.ret <| blkQ_r <| thenQ_r <| loopQ_r <| blkQ_r <| thenQ_r <| retQ.one (ni i) rfl ?_
   exact ⟨_, rfl, by rw [idxOf_some p xs i _ hx12 HP.out ‹_›], st19⟩
  refine WC.skip ?_
  refine blkQ_n ?_
  refine thenQ_n ?_
  refine WC.region ?_
  refine W1 (OpT.iadd .i64 (((i : Nat) : Int)) (1) (((i + 1 : Nat) : Int)) hs6 rfl (wadd (a := i) (b := 1) (by omega)) ?_)
  refine W1 (OpT.move (ni (i + 1)) rfl ?_)
  refine WL.nil ?_
  exact loopQ_n _ (by omega) ⟨i + 1, rfl, by omega, fun j x hj hx => by
        rcases Nat.lt_succ_iff_lt_or_eq.1 hj with hj | rfl
        · exact HP.out j x hj hx
        · rw [hx12] at hx; cases hx; assumption, rfl, hs7, hs8, hs9, st19⟩
 refine WC.exit ?_
 refine thenQ_x ?_
 refine loopQ_x ?_
 refine blkQ_hit ?_
 refine thenQ_n ?_
 refine Wsr ?_
 refine W1 (OpT.assign (ii (-1)) rfl ?_)
 refine Wnt ?_
 refine WC.ret <| retQ.one (ii (-1)) rfl ?_
 exact ⟨_, rfl, by rw [idxOf_none p xs (fun j x hj hx => HP.out j x (by omega) hx)], st4⟩

theorem ContainsFunc_Trm {Z : Nat → Prop} {w0 w : World} {L : List Res} (st : St Z w0 w L) {v : Value} {xs : List Trm} (h : rTrm.sl Z w0 v xs) (k : Nat) (ok : CallOk Try.prog k) (cap : List Value) (p : Trm → Bool) (hp : ∀ (w' : World) (cs : List Value) (x : Trm), x ∈ xs → St Z w0 w' L → rTrm.R Z w0 cs x → Calls Try.prog k (.agg cs.toArray :: cap).toArray w' (Ret fun r w'' => r = .bool (p x) ∧ St Z w0 w'' L)) : Calls Try.prog 66 #[v, (.func (.func k) #[] (cap).toArray)] w (Ret fun r w' => r = .bool (xs.any p) ∧ St Z w0 w' L) := by
 refine calls_of_WC (m := 9) (rs := [.tmp 4]) Try.func66 rfl rfl rfl rfl ?_
 refine Wsr ?_
 refine W1 (OpT.assign (.bool false) rfl ?_)
 refine Wns ?_
 refine W1 (OpT.move v rfl ?_)
 refine W1 (OpT.move (.func (.func k) #[] (cap).toArray) rfl ?_)
 refine W1 (OpT.callS cal73 [] [] [v, (.func (.func k) #[] (cap).toArray)] rfl (ca2 rfl rfl) (IndexFunc_Trm st h k ok cap p hp) ?_)
 rintro v1 w2 ⟨rfl, st3⟩
 refine W1 (OpT.ige .i64 (idxOf p xs) (0) rfl rfl ?_)
 refine W1 (OpT.assign (.bool (decide (0 ≤ (idxOf p xs)))) rfl ?_)
 refine Wnt ?_
 refine WC.ret <| retQ.one (.bool (decide (0 ≤ (idxOf p xs)))) rfl ?_
 exact ⟨_, rfl, by rw [idxOf_any], st3⟩

theorem IndexFunc_Exp {Z : Nat → Prop} {w0 w : World} {L : List Res} (st : St Z w0 w L) {v : Value} {xs : List Exp} (h : rExp.sl Z w0 v xs) (k : Nat) (ok : CallOk Try.prog k) (cap : List Value) (p : Exp → Bool) (hp : ∀ (w' : World) (cs : List Value) (x : Exp), x ∈ xs → St Z w0 w' L → rExp.R Z w0 cs x → Calls Try.prog k (.agg cs.toArray :: cap).toArray w' (Ret fun r w'' => r = .bool (p x) ∧ St Z w0 w'' L)) : Calls Try.prog 88 #[v, (.func (.func k) #[] (cap).toArray)] w (Ret fun r w' => r = .int .i64 (idxOf p xs) ∧ St Z w0 w' L) := by
 refine calls_of_WC (m := 19) (rs := [.tmp 4]) Try.func88 rfl rfl rfl rfl ?_
 refine Wsr ?_
 refine W1 (OpT.assign (ii 0) rfl ?_)
 refine Wnt ?_
 refine WC.seq ?_
 refine Wsr ?_
 refine W1 (OpT.move v rfl ?_)
 refine W1 (OpT.lenR rfl tu57 h rfl ?_)
 refine W1 (OpT.move (ii 0) rfl ?_)
 refine Wnt ?_
 refine WC.block ?_
 refine WC.loop (fun m ρ wz => ∃ (i : Nat), m = xs.length - i ∧ i ≤ xs.length ∧ Hid (∀ (j : Nat) x, j < i → xs[j]? = some x → p x = false) ∧ ρ 8 = (ni i) ∧ ρ 0 = v ∧ ρ 1 = (.func (.func k) #[] (cap).toArray) ∧ ρ 7 = (ni (xs.length)) ∧ St Z w0 wz (L)) _ ⟨0, rfl, by omega, fun j x hj => absurd hj (Nat.not_lt_zero _), rfl, rfl, rfl, rfl, st⟩ ?_
 rintro m1 ρ2 w3 ⟨i, hm10, hp5, HP, hs6, hs7, hs8, hs9, st4⟩
 have hxl := Rl.sl_le h
 refine Wsr ?_
 refine W1 (OpT.ilt .i64 (((i : Nat) : Int)) (((xs.length : Nat) : Int)) hs6 hs9 ?_)
 refine Wnt ?_
 refine WC.seq ?_
 refine WC.condP (((i : Nat) : Int) < ((xs.length : Nat) : Int)) rfl (fun h11 => ?_) (fun h11 => ?_)
 ·refine WC.skip ?_
  refine thenQ_n ?_
  refine WC.seq ?_
  refine WC.block ?_
  refine Wsr ?_
  refine W1 (OpT.move (ni i) hs6 ?_)
  refine W1 (OpT.assign (ni i) rfl ?_)
  refine Wns ?_
  refine W1 (OpT.move (.func (.func k) #[] (cap).toArray) hs8 ?_)
  refine W1 (OpT.move v hs7 ?_)
  refine W1 (OpT.move (ni i) rfl ?_)
  obtain ⟨x12, hx12⟩ : ∃ x, (xs)[i]? = some x := ⟨_, List.getElem?_eq_getElem (by omega)⟩
  refine W1 (OpT.idxX tu57 ts59 h rfl .i64 (i) rfl hx12 (fun ad13 cs14 hr15 hR16 => ?_))
  have hR16c := hR16
  obtain ⟨kv17, rfl, hk18⟩ := rExp_kids hR16
  refine W1 (OpT.loadA ad13 6 [(.int .i8 (x12.op)), (.string x12.term.var), (.int .i8 (x12.term.val.kind)), (.int .i64 (x12.term.val.num)), (.string x12.term.val.text), kv17] ta59 ts59 rfl ((hr15.at st4).part 0 6) rfl ?_)
  refine W1 (OpT.callS ok [] cap ((.agg #[(.int .i8 (x12.op)), (.string x12.term.var), (.int .i8 (x12.term.val.kind)), (.int .i64 (x12.term.val.num)), (.string x12.term.val.text), kv17]) :: cap) rfl (ca1 rfl) (hp _ _ _ (List.mem_of_getElem? hx12) st4 hR16c) ?_)
  rintro v19 w20 ⟨rfl, st21⟩
  refine Wnt ?_
  refine WC.cond ((p x12)) rfl (fun h22 => ?_) (fun h22 => ?_)
  ·refine WC.seq ?_
   refine WC.region ?_
   refine W1 (OpT.move (ni i) rfl ?_)
   refine W1 (OpT.assign (ni i) rfl ?_)
   refine Wnt ?_
   refine WC.ret <| blkQ_r <| thenQ_r <| loopQ_r <| blkQ_r <| thenQ_r <| retQ.one (ni i) rfl ?_
   exact ⟨_, rfl, by rw [idxOf_some p xs i _ hx12 HP.out ‹_›], st21⟩
  refine WC.skip ?_
  refine blkQ_n ?_
  refine thenQ_n ?_
  refine WC.region ?_
  refine W1 (OpT.iadd .i64 (((i : Nat) : Int)) (1) (((i + 1 : Nat) : Int)) hs6 rfl (wadd (a := i) (b := 1) (by omega)) ?_)
  refine W1 (OpT.move (ni (i + 1)) rfl ?_)
  refine WL.nil ?_
  exact loopQ_n _ (by omega) ⟨i + 1, rfl, by omega, fun j x hj hx => by
        rcases Nat.lt_succ_iff_lt_or_eq.1 hj with hj | rfl
        · exact HP.out j x hj hx
        · rw [hx12] at hx; cases hx; assumption, rfl, hs7, hs8, hs9, st21⟩
 refine WC.exit ?_
 refine thenQ_x ?_
 refine loopQ_x ?_
 refine blkQ_hit ?_
 refine thenQ_n ?_
 refine Wsr ?_
 refine W1 (OpT.assign (ii (-1)) rfl ?_)
 refine Wnt ?_
 refine WC.ret <| retQ.one (ii (-1)) rfl ?_
 exact ⟨_, rfl, by rw [idxOf_none p xs (fun j x hj hx => HP.out j x (by omega) hx)], st4⟩

theorem ContainsFunc_Exp {Z : Nat → Prop} {w0 w : World} {L : List Res} (st : St Z w0 w L) {v : Value} {xs : List Exp} (h : rExp.sl Z w0 v xs) (k : Nat) (ok : CallOk Try.prog k) (cap : List Value) (p : Exp → Bool) (hp : ∀ (w' : World) (cs : List Value) (x : Exp), x ∈ xs → St Z w0 w' L → rExp.R Z w0 cs x → Calls Try.prog k (.agg cs.toArray :: cap).toArray w' (Ret fun r w'' => r = .bool (p x) ∧ St Z w0 w'' L)) : Calls Try.prog 75 #[v, (.func (.func k) #[] (cap).toArray)] w (Ret fun r w' => r = .bool (xs.any p) ∧ St Z w0 w' L) := by
 refine calls_of_WC (m := 9) (rs := [.tmp 4]) Try.func75 rfl rfl rfl rfl ?_
 refine Wsr ?_
 refine W1 (OpT.assign (.bool false) rfl ?_)
 refine Wns ?_
 refine W1 (OpT.move v rfl ?_)
 refine W1 (OpT.move (.func (.func k) #[] (cap).toArray) rfl ?_)
 refine W1 (OpT.callS cal88 [] [] [v, (.func (.func k) #[] (cap).toArray)] rfl (ca2 rfl rfl) (IndexFunc_Exp st h k ok cap p hp) ?_)
 rintro v1 w2 ⟨rfl, st3⟩
 refine W1 (OpT.ige .i64 (idxOf p xs) (0) rfl rfl ?_)
 refine W1 (OpT.assign (.bool (decide (0 ≤ (idxOf p xs)))) rfl ?_)
 refine Wnt ?_
 refine WC.ret <| retQ.one (.bool (decide (0 ≤ (idxOf p xs)))) rfl ?_
 exact ⟨_, rfl, by rw [idxOf_any], st3⟩

theorem IndexFunc_Rul {Z : Nat → Prop} {w0 w : World} {L : List Res} (st : St Z w0 w L) {v : Value} {xs : List Rul} (h : rRul.sl Z w0 v xs) (k : Nat) (ok : CallOk Try.prog k) (cap : List Value) (p : Rul → Bool) (hp : ∀ (w' : World) (cs : List Value) (x : Rul), x ∈ xs → St Z w0 w' L → rRul.R Z w0 cs x → Calls Try.prog k (.agg cs.toArray :: cap).toArray w' (Ret fun r w'' => r = .bool (p x) ∧ St Z w0 w'' L)) : Calls Try.prog 54 #[v, (.func (.func k) #[] (cap).toArray)] w (Ret fun r w' => r = .int .i64 (idxOf p xs) ∧ St Z w0 w' L) := by
 refine calls_of_WC (m := 19) (rs := [.tmp 4]) Try.func54 rfl rfl rfl rfl ?_
 refine Wsr ?_
 refine W1 (OpT.assign (ii 0) rfl ?_)
 refine Wnt ?_
 refine WC.seq ?_
 refine Wsr ?_
 refine W1 (OpT.move v rfl ?_)
 refine W1 (OpT.lenR rfl tu22 h rfl ?_)
 refine W1 (OpT.move (ii 0) rfl ?_)
 refine Wnt ?_
 refine WC.block ?_
 refine WC.loop (fun m ρ wz => ∃ (i : Nat), m = xs.length - i ∧ i ≤ xs.length ∧ Hid (∀ (j : Nat) x, j < i → xs[j]? = some x → p x = false) ∧ ρ 8 = (ni i) ∧ ρ 0 = v ∧ ρ 1 = (.func (.func k) #[] (cap).toArray) ∧ ρ 7 = (ni (xs.length)) ∧ St Z w0 wz (L)) _ ⟨0, rfl, by omega, fun j x hj => absurd hj (Nat.not_lt_zero _), rfl, rfl, rfl, rfl, st⟩ ?_
 rintro m1 ρ2 w3 ⟨i, hm10, hp5, HP, hs6, hs7, hs8, hs9, st4⟩
 have hxl := Rl.sl_le h
 refine Wsr ?_
 refine W1 (OpT.ilt .i64 (((i : Nat) : Int)) (((xs.length : Nat) : Int)) hs6 hs9 ?_)
 refine Wnt ?_
 refine WC.seq ?_
 refine WC.condP (((i : Nat) : Int) < ((xs.length : Nat) : Int)) rfl (fun h11 => ?_) (fun h11 => ?_)
 ·refine WC.skip ?_
  refine thenQ_n ?_
  refine WC.seq ?_
  refine WC.block ?_
  refine Wsr ?_
  refine W1 (OpT.move (ni i) hs6 ?_)
  refine W1 (OpT.assign (ni i) rfl ?_)
  refine Wns ?_
  refine W1 (OpT.move (.func (.func k) #[] (cap).toArray) hs8 ?_)
  refine W1 (OpT.move v hs7 ?_)
  refine W1 (OpT.move (ni i) rfl ?_)
  obtain ⟨x12, hx12⟩ : ∃ x, (xs)[i]? = some x := ⟨_, List.getElem?_eq_getElem (by omega)⟩
  refine W1 (OpT.idxX tu22 ts31 h rfl .i64 (i) rfl hx12 (fun ad13 cs14 hr15 hR16 => ?_))
  have hR16c := hR16
  obtain ⟨hv17, bv18, rfl, hh19, hb20⟩ := hR16
  refine W1 (OpT.loadA ad13 3 [(.string x12.pred), hv17, bv18] ta31 ts31 rfl ((hr15.at st4).part 0 3) rfl ?_)
  refine W1 (OpT.callS ok [] cap ((.agg #[(.string x12.pred), hv17, bv18]) :: cap) rfl (ca1 rfl) (hp _ _ _ (List.mem_of_getElem? hx12) st4 hR16c) ?_)
  rintro v21 w22 ⟨rfl, st23⟩
  refine Wnt ?_
  refine WC.cond ((p x12)) rfl (fun h24 => ?_) (fun h24 => ?_)
  ·refine WC.seq ?_
   refine WC.region ?_
   refine W1 (OpT.move (ni i) rfl ?_)
   refine W1 (OpT.assign (ni i) rfl ?_)
   refine Wnt ?_
   refine WC.ret <| blkQ_r <| thenQ_r <| loopQ_r <| blkQ_r <| thenQ_r <| retQ.one (ni i) rfl ?_
   exact ⟨_, rfl, by rw [idxOf_some p xs i _ hx12 HP.out ‹_›], st23⟩
  refine WC.skip ?_
  refine blkQ_n ?_
  refine thenQ_n ?_
  refine WC.region ?_
  refine W1 (OpT.iadd .i64 (((i : Nat) : Int)) (1) (((i + 1 : Nat) : Int)) hs6 rfl (wadd (a := i) (b := 1) (by omega)) ?_)
  refine W1 (OpT.move (ni (i + 1)) rfl ?_)
  refine WL.nil ?_
  exact loopQ_n _ (by omega) ⟨i + 1, rfl, by omega, fun j x hj hx => by
        rcases Nat.lt_succ_iff_lt_or_eq.1 hj with hj | rfl
        · exact HP.out j x hj hx
        · rw [hx12] at hx; cases hx; assumption, rfl, hs7, hs8, hs9, st23⟩
 refine WC.exit ?_
 refine thenQ_x ?_
 refine loopQ_x ?_
 refine blkQ_hit ?_
 refine thenQ_n ?_
 refine Wsr ?_
 refine W1 (OpT.assign (ii (-1)) rfl ?_)
 refine Wnt ?_
 refine WC.ret <| retQ.one (ii (-1)) rfl ?_
 exact ⟨_, rfl, by rw [idxOf_none p xs (fun j x hj hx => HP.out j x (by omega) hx)], st4⟩

theorem ContainsFunc_Rul {Z : Nat → Prop} {w0 w : World} {L : List Res} (st : St Z w0 w L) {v : Value} {xs : List Rul} (h : rRul.sl Z w0 v xs) (k : Nat) (ok : CallOk Try.prog k) (cap : List Value) (p : Rul → Bool) (hp : ∀ (w' : World) (cs : List Value) (x : Rul), x ∈ xs → St Z w0 w' L → rRul.R Z w0 cs x → Calls Try.prog k (.agg cs.toArray :: cap).toArray w' (Ret fun r w'' => r = .bool (p x) ∧ St Z w0 w'' L)) : Calls Try.prog 39 #[v, (.func (.func k) #[] (cap).toArray)] w (Ret fun r w' => r = .bool (xs.any p) ∧ St Z w0 w' L) := by
 refine calls_of_WC (m := 9) (rs := [.tmp 4]) Try.func39 rfl rfl rfl rfl ?_
 refine Wsr ?_
 refine W1 (OpT.assign (.bool false) rfl ?_)
 refine Wns ?_
 refine W1 (OpT.move v rfl ?_)
 refine W1 (OpT.move (.func (.func k) #[] (cap).toArray) rfl ?_)
 refine W1 (OpT.callS cal54 [] [] [v, (.func (.func k) #[] (cap).toArray)] rfl (ca2 rfl rfl) (IndexFunc_Rul st h k ok cap p hp) ?_)
 rintro v1 w2 ⟨rfl, st3⟩
 refine W1 (OpT.ige .i64 (idxOf p xs) (0) rfl rfl ?_)
 refine W1 (OpT.assign (.bool (decide (0 ≤ (idxOf p xs)))) rfl ?_)
 refine Wnt ?_
 refine WC.ret <| retQ.one (.bool (decide (0 ≤ (idxOf p xs)))) rfl ?_
 exact ⟨_, rfl, by rw [idxOf_any], st3⟩

end Go.Ped
