/- Names and words. -/
import Derived.Test.YtojkakpkmfopbaaDat
import Derived.Test.YtojkakpkmfopbaaEngF
import Derived.Test.YtojkakpkmfopbaaProg
import Derived.Test.YtojkakpkmfopbaaF1
set_option linter.unusedVariables false
set_option maxRecDepth 20000
namespace Go.Ped
open Go Go.Eng Go.RowKit Go.Proofs

theorem tu140 : Try.prog.underlying 140 = some (.slice 5) := by kernel_rfl
theorem tu5 : Try.prog.underlying 5 = some (.int .u8) := by kernel_rfl
theorem ts5 : sizeB Try.prog 5 = some 1 := by kernel_rfl
theorem ta5 : aggB Try.prog 5 = some false := by kernel_rfl
def ltrB (c : Int) : Bool := !((decide (c < 97) || decide (122 < c)) && (decide (c < 65) || decide (90 < c)) && (decide (c < 48) || decide (57 < c)) && decide (c ≠ 95))
    def wordB (s : ByteArray) (a z : Int) : Bool := !(decide ((s.size : Int) = 0) || decide (120 < (s.size : Int)) || decide (byt s 0 < a) || decide (z < byt s 0)) && (List.range s.size).all (fun k => ltrB (byt s k))
    theorem all_range_succ (p : Nat → Bool) (k : Nat) : (List.range (k + 1)).all p = ((List.range k).all p && p k) := by rw [List.range_succ, List.all_append]; simp
    theorem all_range_false (p : Nat → Bool) (k n : Nat) (hk : k < n) (h : p k = false) : (List.range n).all p = false := by
      rw [Bool.eq_false_iff]; intro hh
      have := List.all_eq_true.1 hh k (List.mem_range.2 hk)
      rw [h] at this; cases this
theorem word_spec {Z : Nat → Prop} {w0 w : World} {L : List Res} (st : St Z w0 w L) (s : ByteArray) (a z : Int)  : Calls Try.prog 55 #[(.string s), (.int .u8 (a)), (.int .u8 (z))] w (Ret fun r w' => r = .bool (wordB s a z) ∧ St Z w0 w' L) := by
 refine calls_of_WC (m := 63) (rs := [.tmp 6]) Try.func55 rfl rfl rfl rfl ?_
 refine Wsr ?_
 refine W1 (OpT.assign (.bool false) rfl ?_)
 refine Wnt ?_
 refine WC.seq ?_
 refine Wsr ?_
 refine W1 (OpT.move (.string s) rfl ?_)
 refine W1 (OpT.lenStr (s) rfl tu9 rfl ?_)
 refine W1 (OpT.ieq .i64 (((s.size : Nat) : Int)) (0) rfl rfl ?_)
 refine W1 (OpT.move (.bool (decide (((s.size : Nat) : Int) = 0))) rfl ?_)
 by_cases h1 : ((s.size : Nat) : Int) = 0
 ·refine WL.pass (dj := 12) (c := true) rfl rfl rfl (bT h1) rfl ?_
  refine WL.pass (dj := 12) (c := true) rfl rfl rfl (bT h1) rfl ?_
  refine WL.pass (dj := 12) (c := true) rfl rfl rfl (bT h1) rfl ?_
  refine W1 (OpT.pickT (.bool true) (bT h1) rfl ?_)
  refine W1 (OpT.move (.bool true) rfl ?_)
  refine WL.pass (dj := 17) (c := true) rfl rfl rfl rfl rfl ?_
  refine WL.pass (dj := 17) (c := true) rfl rfl rfl rfl rfl ?_
  refine WL.pass (dj := 17) (c := true) rfl rfl rfl rfl rfl ?_
  refine WL.pass (dj := 17) (c := true) rfl rfl rfl rfl rfl ?_
  refine W1 (OpT.pickT (.bool true) rfl rfl ?_)
  refine W1 (OpT.move (.bool true) rfl ?_)
  refine WL.pass (dj := 23) (c := true) rfl rfl rfl rfl rfl ?_
  refine WL.pass (dj := 23) (c := true) rfl rfl rfl rfl rfl ?_
  refine WL.pass (dj := 23) (c := true) rfl rfl rfl rfl rfl ?_
  refine WL.pass (dj := 23) (c := true) rfl rfl rfl rfl rfl ?_
  refine W1 (OpT.pickT (.bool true) rfl rfl ?_)
  refine Wnt ?_
  refine WC.condT rfl ?_
  refine Wsr ?_
  refine W1 (OpT.assign (.bool false) rfl ?_)
  refine Wnt ?_
  refine WC.ret <| thenQ_r <| retQ.one (.bool false) rfl ?_
  exact ⟨_, rfl, by simp [wordB, *], st⟩
 refine W2 (dj := 12) (bF h1) (OpT.move (.string s) rfl ?_)
 refine W2 (dj := 12) (bF h1) (OpT.lenStr (s) rfl tu9 rfl ?_)
 refine W2 (dj := 12) (bF h1) (OpT.igt .i64 (((s.size : Nat) : Int)) (120) rfl rfl ?_)
 refine W1 (OpT.pickF (.bool (decide (120 < ((s.size : Nat) : Int)))) (bF h1) rfl ?_)
 refine W1 (OpT.move (.bool (decide (120 < ((s.size : Nat) : Int)))) rfl ?_)
 by_cases h2 : 120 < ((s.size : Nat) : Int)
 ·refine WL.pass (dj := 17) (c := true) rfl rfl rfl (bT h2) rfl ?_
  refine WL.pass (dj := 17) (c := true) rfl rfl rfl (bT h2) rfl ?_
  refine WL.pass (dj := 17) (c := true) rfl rfl rfl (bT h2) rfl ?_
  refine WL.pass (dj := 17) (c := true) rfl rfl rfl (bT h2) rfl ?_
  refine W1 (OpT.pickT (.bool true) (bT h2) rfl ?_)
  refine W1 (OpT.move (.bool true) rfl ?_)
  refine WL.pass (dj := 23) (c := true) rfl rfl rfl rfl rfl ?_
  refine WL.pass (dj := 23) (c := true) rfl rfl rfl rfl rfl ?_
  refine WL.pass (dj := 23) (c := true) rfl rfl rfl rfl rfl ?_
  refine WL.pass (dj := 23) (c := true) rfl rfl rfl rfl rfl ?_
  refine W1 (OpT.pickT (.bool true) rfl rfl ?_)
  refine Wnt ?_
  refine WC.condT rfl ?_
  refine Wsr ?_
  refine W1 (OpT.assign (.bool false) rfl ?_)
  refine Wnt ?_
  refine WC.ret <| thenQ_r <| retQ.one (.bool false) rfl ?_
  exact ⟨_, rfl, by simp [wordB, *], st⟩
 refine W2 (dj := 17) (bF h2) (OpT.move (.string s) rfl ?_)
 refine W2 (dj := 17) (bF h2) (OpT.idxStr (s) .i64 (0) tu9 rfl rfl (by omega) ?_)
 refine W2 (dj := 17) (bF h2) (OpT.move (.int .u8 (a)) rfl ?_)
 refine W2 (dj := 17) (bF h2) (OpT.ilt .u8 (byt s 0) (a) rfl rfl ?_)
 refine W1 (OpT.pickF (.bool (decide ((byt s 0) < a))) (bF h2) rfl ?_)
 refine W1 (OpT.move (.bool (decide ((byt s 0) < a))) rfl ?_)
 by_cases h3 : (byt s 0) < a
 ·refine WL.pass (dj := 23) (c := true) rfl rfl rfl (bT h3) rfl ?_
  refine WL.pass (dj := 23) (c := true) rfl rfl rfl (bT h3) rfl ?_
  refine WL.pass (dj := 23) (c := true) rfl rfl rfl (bT h3) rfl ?_
  refine WL.pass (dj := 23) (c := true) rfl rfl rfl (bT h3) rfl ?_
  refine W1 (OpT.pickT (.bool true) (bT h3) rfl ?_)
  refine Wnt ?_
  refine WC.condT rfl ?_
  refine Wsr ?_
  refine W1 (OpT.assign (.bool false) rfl ?_)
  refine Wnt ?_
  refine WC.ret <| thenQ_r <| retQ.one (.bool false) rfl ?_
  exact ⟨_, rfl, by simp [wordB, *], st⟩
 refine W2 (dj := 23) (bF h3) (OpT.move (.string s) rfl ?_)
 refine W2 (dj := 23) (bF h3) (OpT.idxStr (s) .i64 (0) tu9 rfl rfl (by omega) ?_)
 refine W2 (dj := 23) (bF h3) (OpT.move (.int .u8 (z)) rfl ?_)
 refine W2 (dj := 23) (bF h3) (OpT.igt .u8 (byt s 0) (z) rfl rfl ?_)
 refine W1 (OpT.pickF (.bool (decide (z < (byt s 0)))) (bF h3) rfl ?_)
 refine Wnt ?_
 refine WC.condP (z < (byt s 0)) rfl (fun h4 => ?_) (fun h4 => ?_)
 ·refine WC.seq ?_
  refine WC.region ?_
  refine W1 (OpT.assign (.bool false) rfl ?_)
  refine Wnt ?_
  refine WC.ret <| thenQ_r <| retQ.one (.bool false) rfl ?_
  exact ⟨_, rfl, by simp [wordB, *], st⟩
 refine WC.skip ?_
 refine thenQ_n ?_
 refine WC.seq ?_
 refine Wsr ?_
 refine W1 (OpT.move (.string s) rfl ?_)
 refine W1 (OpT.strBytes st (s) tu9 tu140 tu5 rfl (fun b5 c6 w7 st8 => ?_))
 refine W1 (OpT.lenS _ _ _ rfl tu140 rfl ?_)
 refine W1 (OpT.move (ii 0) rfl ?_)
 refine Wnt ?_
 refine WC.block ?_
 refine WC.loop (fun m ρ wz => ∃ (k : Nat), m = s.size - k ∧ k ≤ s.size ∧ Hid ((List.range k).all (fun k => ltrB (byt s k)) = true) ∧ ρ 32 = (ni k) ∧ ρ 30 = (.slice (some ⟨b5, 0, none⟩) s.size c6) ∧ ρ 31 = (ni (s.size)) ∧ St Z w0 wz (Byt b5 5 s :: L)) _ ⟨0, rfl, by omega, rfl, rfl, rfl, rfl, st8⟩ ?_
 rintro m9 ρ10 w11 ⟨k, hm17, hp13, HP, hs14, hs15, hs16, st12⟩
 have b0 := byt_nn s k
 have b1 := byt_lt s k
 refine Wsr ?_
 refine W1 (OpT.ilt .i64 (((k : Nat) : Int)) (((s.size : Nat) : Int)) hs14 hs16 ?_)
 refine Wnt ?_
 refine WC.seq ?_
 refine WC.condP (((k : Nat) : Int) < ((s.size : Nat) : Int)) rfl (fun h18 => ?_) (fun h18 => ?_)
 ·refine WC.skip ?_
  refine thenQ_n ?_
  refine WC.seq ?_
  refine WC.block ?_
  refine Wsr ?_
  refine W1 (OpT.idx 1 ⟨b5, 0, none⟩ ((⟨b5, 0, none⟩ : Addr).add k) _ _ .i64 (((k : Nat) : Int)) tu140 ts5 hs15 hs14 (by omega) (by omega) (by simp) ?_)
  refine W1 (OpT.loadS ((⟨b5, 0, none⟩ : Addr).add k) (.int .u8 (byt s k)) ta5 rfl (st12.byt (i := 0) rfl (by omega)) ?_)
  refine W1 (OpT.assign (.int .u8 (byt s k)) rfl ?_)
  refine Wns ?_
  refine W1 (OpT.move (.int .u8 (byt s k)) rfl ?_)
  refine W1 (OpT.ilt .u8 (byt s k) (97) rfl rfl ?_)
  refine W1 (OpT.move (.bool (decide ((byt s k) < 97))) rfl ?_)
  by_cases h19 : (byt s k) < 97
  ·refine WL.pass (dj := 38) (c := true) rfl rfl rfl (bT h19) rfl ?_
   refine WL.pass (dj := 38) (c := true) rfl rfl rfl (bT h19) rfl ?_
   refine W1 (OpT.pickT (.bool true) (bT h19) rfl ?_)
   refine W1 (OpT.move (.bool true) rfl ?_)
   refine W2 (dj := 42) rfl (OpT.move (.int .u8 (byt s k)) rfl ?_)
   refine W2 (dj := 42) rfl (OpT.ilt .u8 (byt s k) (65) rfl rfl ?_)
   refine W2 (dj := 42) rfl (OpT.move (.bool (decide ((byt s k) < 65))) rfl ?_)
   by_cases h20 : (byt s k) < 65
   ·refine WL.pass (dj := 45) (c := true) rfl rfl rfl (bT h20) rfl ?_
    refine WL.pass (dj := 45) (c := true) rfl rfl rfl (bT h20) rfl ?_
    refine W2 (dj := 42) rfl (OpT.pickT (.bool true) (bT h20) rfl ?_)
    refine W1 (OpT.pickT (.bool true) rfl rfl ?_)
    refine W1 (OpT.move (.bool true) rfl ?_)
    refine W2 (dj := 50) rfl (OpT.move (.int .u8 (byt s k)) rfl ?_)
    refine W2 (dj := 50) rfl (OpT.ilt .u8 (byt s k) (48) rfl rfl ?_)
    refine W2 (dj := 50) rfl (OpT.move (.bool (decide ((byt s k) < 48))) rfl ?_)
    by_cases h21 : (byt s k) < 48
    ·refine WL.pass (dj := 53) (c := true) rfl rfl rfl (bT h21) rfl ?_
     refine WL.pass (dj := 53) (c := true) rfl rfl rfl (bT h21) rfl ?_
     refine W2 (dj := 50) rfl (OpT.pickT (.bool true) (bT h21) rfl ?_)
     refine W1 (OpT.pickT (.bool true) rfl rfl ?_)
     refine W1 (OpT.move (.bool true) rfl ?_)
     refine W2 (dj := 58) rfl (OpT.move (.int .u8 (byt s k)) rfl ?_)
     refine W2 (dj := 58) rfl (OpT.ine .u8 (byt s k) (95) rfl rfl ?_)
     refine W1 (OpT.pickT (.bool (decide ((byt s k) ≠ 95))) rfl rfl ?_)
     refine Wnt ?_
     refine WC.condP ((byt s k) ≠ 95) rfl (fun h22 => ?_) (fun h22 => ?_)
     ·refine WC.seq ?_
      refine WC.region ?_
      refine W1 (OpT.assign (.bool false) rfl ?_)
      refine Wnt ?_
      refine WC.ret <| blkQ_r <| thenQ_r <| loopQ_r <| blkQ_r <| thenQ_r <| retQ.one (.bool false) rfl ?_
      exact ⟨_, rfl, by rw [wordB, all_range_false _ k _ (by omega) (by simp [ltrB]; omega)]; simp, (St.selT [Byt b5 5 s] [] rfl (by decide) st12)⟩
     refine WC.skip ?_
     refine blkQ_n ?_
     refine thenQ_n ?_
     refine WC.region ?_
     refine W1 (OpT.iadd .i64 (((k : Nat) : Int)) (1) (((k + 1 : Nat) : Int)) hs14 rfl (wadd (a := k) (b := 1) (by omega)) ?_)
     refine W1 (OpT.move (ni (k + 1)) rfl ?_)
     refine WL.nil ?_
     exact loopQ_n _ (by omega) ⟨k + 1, rfl, by omega, by unfold Hid; rw [all_range_succ, HP.out]; simp [ltrB]; omega, rfl, hs15, hs16, st12⟩
    refine W2 (dj := 53) (bF h21) (OpT.move (.int .u8 (byt s k)) rfl ?_)
    refine W2 (dj := 53) (bF h21) (OpT.igt .u8 (byt s k) (57) rfl rfl ?_)
    refine W2 (dj := 50) rfl (OpT.pickF (.bool (decide (57 < (byt s k)))) (bF h21) rfl ?_)
    refine W1 (OpT.pickT (.bool (decide (57 < (byt s k)))) rfl rfl ?_)
    refine W1 (OpT.move (.bool (decide (57 < (byt s k)))) rfl ?_)
    by_cases h23 : 57 < (byt s k)
    ·refine W2 (dj := 58) (bT h23) (OpT.move (.int .u8 (byt s k)) rfl ?_)
     refine W2 (dj := 58) (bT h23) (OpT.ine .u8 (byt s k) (95) rfl rfl ?_)
     refine W1 (OpT.pickT (.bool (decide ((byt s k) ≠ 95))) (bT h23) rfl ?_)
     refine Wnt ?_
     refine WC.condP ((byt s k) ≠ 95) rfl (fun h24 => ?_) (fun h24 => ?_)
     ·refine WC.seq ?_
      refine WC.region ?_
      refine W1 (OpT.assign (.bool false) rfl ?_)
      refine Wnt ?_
      refine WC.ret <| blkQ_r <| thenQ_r <| loopQ_r <| blkQ_r <| thenQ_r <| retQ.one (.bool false) rfl ?_
      exact ⟨_, rfl, by rw [wordB, all_range_false _ k _ (by omega) (by simp [ltrB]; omega)]; simp, (St.selT [Byt b5 5 s] [] rfl (by decide) st12)⟩
     refine WC.skip ?_
     refine blkQ_n ?_
     refine thenQ_n ?_
     refine WC.region ?_
     refine W1 (OpT.iadd .i64 (((k : Nat) : Int)) (1) (((k + 1 : Nat) : Int)) hs14 rfl (wadd (a := k) (b := 1) (by omega)) ?_)
     refine W1 (OpT.move (ni (k + 1)) rfl ?_)
     refine WL.nil ?_
     exact loopQ_n _ (by omega) ⟨k + 1, rfl, by omega, by unfold Hid; rw [all_range_succ, HP.out]; simp [ltrB]; omega, rfl, hs15, hs16, st12⟩
    refine WL.pass (dj := 58) (c := false) rfl rfl rfl (bF h23) rfl ?_
    refine WL.pass (dj := 58) (c := false) rfl rfl rfl (bF h23) rfl ?_
    refine W1 (OpT.pickF (.bool false) (bF h23) rfl ?_)
    refine Wnt ?_
    refine WC.condF rfl ?_
    refine WC.skip ?_
    refine blkQ_n ?_
    refine thenQ_n ?_
    refine WC.region ?_
    refine W1 (OpT.iadd .i64 (((k : Nat) : Int)) (1) (((k + 1 : Nat) : Int)) hs14 rfl (wadd (a := k) (b := 1) (by omega)) ?_)
    refine W1 (OpT.move (ni (k + 1)) rfl ?_)
    refine WL.nil ?_
    exact loopQ_n _ (by omega) ⟨k + 1, rfl, by omega, by unfold Hid; rw [all_range_succ, HP.out]; simp [ltrB]; omega, rfl, hs15, hs16, st12⟩
   refine W2 (dj := 45) (bF h20) (OpT.move (.int .u8 (byt s k)) rfl ?_)
   refine W2 (dj := 45) (bF h20) (OpT.igt .u8 (byt s k) (90) rfl rfl ?_)
   refine W2 (dj := 42) rfl (OpT.pickF (.bool (decide (90 < (byt s k)))) (bF h20) rfl ?_)
   refine W1 (OpT.pickT (.bool (decide (90 < (byt s k)))) rfl rfl ?_)
   refine W1 (OpT.move (.bool (decide (90 < (byt s k)))) rfl ?_)
   by_cases h25 : 90 < (byt s k)
   ·refine W2 (dj := 50) (bT h25) (OpT.move (.int .u8 (byt s k)) rfl ?_)
    refine W2 (dj := 50) (bT h25) (OpT.ilt .u8 (byt s k) (48) rfl rfl ?_)
    refine W2 (dj := 50) (bT h25) (OpT.move (.bool (decide ((byt s k) < 48))) rfl ?_)
    by_cases h26 : (byt s k) < 48
    ·refine WL.pass (dj := 53) (c := true) rfl rfl rfl (bT h26) rfl ?_
     refine WL.pass (dj := 53) (c := true) rfl rfl rfl (bT h26) rfl ?_
     refine W2 (dj := 50) (bT h25) (OpT.pickT (.bool true) (bT h26) rfl ?_)
     refine W1 (OpT.pickT (.bool true) (bT h25) rfl ?_)
     refine W1 (OpT.move (.bool true) rfl ?_)
     refine W2 (dj := 58) rfl (OpT.move (.int .u8 (byt s k)) rfl ?_)
     refine W2 (dj := 58) rfl (OpT.ine .u8 (byt s k) (95) rfl rfl ?_)
     refine W1 (OpT.pickT (.bool (decide ((byt s k) ≠ 95))) rfl rfl ?_)
     refine Wnt ?_
     refine WC.condP ((byt s k) ≠ 95) rfl (fun h27 => ?_) (fun h27 => ?_)
     ·refine WC.seq ?_
      refine WC.region ?_
      refine W1 (OpT.assign (.bool false) rfl ?_)
      refine Wnt ?_
      refine WC.ret <| blkQ_r <| thenQ_r <| loopQ_r <| blkQ_r <| thenQ_r <| retQ.one (.bool false) rfl ?_
      exact ⟨_, rfl, by rw [wordB, all_range_false _ k _ (by omega) (by simp [ltrB]; omega)]; simp, (St.selT [Byt b5 5 s] [] rfl (by decide) st12)⟩
     refine WC.skip ?_
     refine blkQ_n ?_
     refine thenQ_n ?_
     refine WC.region ?_
     refine W1 (OpT.iadd .i64 (((k : Nat) : Int)) (1) (((k + 1 : Nat) : Int)) hs14 rfl (wadd (a := k) (b := 1) (by omega)) ?_)
     refine W1 (OpT.move (ni (k + 1)) rfl ?_)
     refine WL.nil ?_
     exact loopQ_n _ (by omega) ⟨k + 1, rfl, by omega, by unfold Hid; rw [all_range_succ, HP.out]; simp [ltrB]; omega, rfl, hs15, hs16, st12⟩
    refine W2 (dj := 53) (bF h26) (OpT.move (.int .u8 (byt s k)) rfl ?_)
    refine W2 (dj := 53) (bF h26) (OpT.igt .u8 (byt s k) (57) rfl rfl ?_)
    refine W2 (dj := 50) (bT h25) (OpT.pickF (.bool (decide (57 < (byt s k)))) (bF h26) rfl ?_)
    refine W1 (OpT.pickT (.bool (decide (57 < (byt s k)))) (bT h25) rfl ?_)
    refine W1 (OpT.move (.bool (decide (57 < (byt s k)))) rfl ?_)
    by_cases h28 : 57 < (byt s k)
    ·refine W2 (dj := 58) (bT h28) (OpT.move (.int .u8 (byt s k)) rfl ?_)
     refine W2 (dj := 58) (bT h28) (OpT.ine .u8 (byt s k) (95) rfl rfl ?_)
     refine W1 (OpT.pickT (.bool (decide ((byt s k) ≠ 95))) (bT h28) rfl ?_)
     refine Wnt ?_
     refine WC.condP ((byt s k) ≠ 95) rfl (fun h29 => ?_) (fun h29 => ?_)
     ·refine WC.seq ?_
      refine WC.region ?_
      refine W1 (OpT.assign (.bool false) rfl ?_)
      refine Wnt ?_
      refine WC.ret <| blkQ_r <| thenQ_r <| loopQ_r <| blkQ_r <| thenQ_r <| retQ.one (.bool false) rfl ?_
      exact ⟨_, rfl, by rw [wordB, all_range_false _ k _ (by omega) (by simp [ltrB]; omega)]; simp, (St.selT [Byt b5 5 s] [] rfl (by decide) st12)⟩
     refine WC.skip ?_
     refine blkQ_n ?_
     refine thenQ_n ?_
     refine WC.region ?_
     refine W1 (OpT.iadd .i64 (((k : Nat) : Int)) (1) (((k + 1 : Nat) : Int)) hs14 rfl (wadd (a := k) (b := 1) (by omega)) ?_)
     refine W1 (OpT.move (ni (k + 1)) rfl ?_)
     refine WL.nil ?_
     exact loopQ_n _ (by omega) ⟨k + 1, rfl, by omega, by unfold Hid; rw [all_range_succ, HP.out]; simp [ltrB]; omega, rfl, hs15, hs16, st12⟩
    refine WL.pass (dj := 58) (c := false) rfl rfl rfl (bF h28) rfl ?_
    refine WL.pass (dj := 58) (c := false) rfl rfl rfl (bF h28) rfl ?_
    refine W1 (OpT.pickF (.bool false) (bF h28) rfl ?_)
    refine Wnt ?_
    refine WC.condF rfl ?_
    refine WC.skip ?_
    refine blkQ_n ?_
    refine thenQ_n ?_
    refine WC.region ?_
    refine W1 (OpT.iadd .i64 (((k : Nat) : Int)) (1) (((k + 1 : Nat) : Int)) hs14 rfl (wadd (a := k) (b := 1) (by omega)) ?_)
    refine W1 (OpT.move (ni (k + 1)) rfl ?_)
    refine WL.nil ?_
    exact loopQ_n _ (by omega) ⟨k + 1, rfl, by omega, by unfold Hid; rw [all_range_succ, HP.out]; simp [ltrB]; omega, rfl, hs15, hs16, st12⟩
   refine WL.pass (dj := 50) (c := false) rfl rfl rfl (bF h25) rfl ?_
   refine WL.pass (dj := 50) (c := false) rfl rfl rfl (bF h25) rfl ?_
   refine WL.pass (dj := 50) (c := false) rfl rfl rfl (bF h25) rfl ?_
   refine WL.passU (dj := 53) rfl rfl rfl ?_
   refine WL.passU (dj := 53) rfl rfl rfl ?_
   refine WL.pass (dj := 50) (c := false) rfl rfl rfl (bF h25) rfl ?_
   refine W1 (OpT.pickF (.bool false) (bF h25) rfl ?_)
   refine W1 (OpT.move (.bool false) rfl ?_)
   refine WL.pass (dj := 58) (c := false) rfl rfl rfl rfl rfl ?_
   refine WL.pass (dj := 58) (c := false) rfl rfl rfl rfl rfl ?_
   refine W1 (OpT.pickF (.bool false) rfl rfl ?_)
   refine Wnt ?_
   refine WC.condF rfl ?_
   refine WC.skip ?_
   refine blkQ_n ?_
   refine thenQ_n ?_
   refine WC.region ?_
   refine W1 (OpT.iadd .i64 (((k : Nat) : Int)) (1) (((k + 1 : Nat) : Int)) hs14 rfl (wadd (a := k) (b := 1) (by omega)) ?_)
   refine W1 (OpT.move (ni (k + 1)) rfl ?_)
   refine WL.nil ?_
   exact loopQ_n _ (by omega) ⟨k + 1, rfl, by omega, by unfold Hid; rw [all_range_succ, HP.out]; simp [ltrB]; omega, rfl, hs15, hs16, st12⟩
  refine W2 (dj := 38) (bF h19) (OpT.move (.int .u8 (byt s k)) rfl ?_)
  refine W2 (dj := 38) (bF h19) (OpT.igt .u8 (byt s k) (122) rfl rfl ?_)
  refine W1 (OpT.pickF (.bool (decide (122 < (byt s k)))) (bF h19) rfl ?_)
  refine W1 (OpT.move (.bool (decide (122 < (byt s k)))) rfl ?_)
  by_cases h30 : 122 < (byt s k)
  ·refine W2 (dj := 42) (bT h30) (OpT.move (.int .u8 (byt s k)) rfl ?_)
   refine W2 (dj := 42) (bT h30) (OpT.ilt .u8 (byt s k) (65) rfl rfl ?_)
   refine W2 (dj := 42) (bT h30) (OpT.move (.bool (decide ((byt s k) < 65))) rfl ?_)
   by_cases h31 : (byt s k) < 65
   ·refine WL.pass (dj := 45) (c := true) rfl rfl rfl (bT h31) rfl ?_
    refine WL.pass (dj := 45) (c := true) rfl rfl rfl (bT h31) rfl ?_
    refine W2 (dj := 42) (bT h30) (OpT.pickT (.bool true) (bT h31) rfl ?_)
    refine W1 (OpT.pickT (.bool true) (bT h30) rfl ?_)
    refine W1 (OpT.move (.bool true) rfl ?_)
    refine W2 (dj := 50) rfl (OpT.move (.int .u8 (byt s k)) rfl ?_)
    refine W2 (dj := 50) rfl (OpT.ilt .u8 (byt s k) (48) rfl rfl ?_)
    refine W2 (dj := 50) rfl (OpT.move (.bool (decide ((byt s k) < 48))) rfl ?_)
    by_cases h32 : (byt s k) < 48
    ·refine WL.pass (dj := 53) (c := true) rfl rfl rfl (bT h32) rfl ?_
     refine WL.pass (dj := 53) (c := true) rfl rfl rfl (bT h32) rfl ?_
     refine W2 (dj := 50) rfl (OpT.pickT (.bool true) (bT h32) rfl ?_)
     refine W1 (OpT.pickT (.bool true) rfl rfl ?_)
     refine W1 (OpT.move (.bool true) rfl ?_)
     refine W2 (dj := 58) rfl (OpT.move (.int .u8 (byt s k)) rfl ?_)
     refine W2 (dj := 58) rfl (OpT.ine .u8 (byt s k) (95) rfl rfl ?_)
     refine W1 (OpT.pickT (.bool (decide ((byt s k) ≠ 95))) rfl rfl ?_)
     refine Wnt ?_
     refine WC.condP ((byt s k) ≠ 95) rfl (fun h33 => ?_) (fun h33 => ?_)
     ·refine WC.seq ?_
      refine WC.region ?_
      refine W1 (OpT.assign (.bool false) rfl ?_)
      refine Wnt ?_
      refine WC.ret <| blkQ_r <| thenQ_r <| loopQ_r <| blkQ_r <| thenQ_r <| retQ.one (.bool false) rfl ?_
      exact ⟨_, rfl, by rw [wordB, all_range_false _ k _ (by omega) (by simp [ltrB]; omega)]; simp, (St.selT [Byt b5 5 s] [] rfl (by decide) st12)⟩
     refine WC.skip ?_
     refine blkQ_n ?_
     refine thenQ_n ?_
     refine WC.region ?_
     refine W1 (OpT.iadd .i64 (((k : Nat) : Int)) (1) (((k + 1 : Nat) : Int)) hs14 rfl (wadd (a := k) (b := 1) (by omega)) ?_)
     refine W1 (OpT.move (ni (k + 1)) rfl ?_)
     refine WL.nil ?_
     exact loopQ_n _ (by omega) ⟨k + 1, rfl, by omega, by unfold Hid; rw [all_range_succ, HP.out]; simp [ltrB]; omega, rfl, hs15, hs16, st12⟩
    refine W2 (dj := 53) (bF h32) (OpT.move (.int .u8 (byt s k)) rfl ?_)
    refine W2 (dj := 53) (bF h32) (OpT.igt .u8 (byt s k) (57) rfl rfl ?_)
    refine W2 (dj := 50) rfl (OpT.pickF (.bool (decide (57 < (byt s k)))) (bF h32) rfl ?_)
    refine W1 (OpT.pickT (.bool (decide (57 < (byt s k)))) rfl rfl ?_)
    refine W1 (OpT.move (.bool (decide (57 < (byt s k)))) rfl ?_)
    by_cases h34 : 57 < (byt s k)
    ·refine W2 (dj := 58) (bT h34) (OpT.move (.int .u8 (byt s k)) rfl ?_)
     refine W2 (dj := 58) (bT h34) (OpT.ine .u8 (byt s k) (95) rfl rfl ?_)
     refine W1 (OpT.pickT (.bool (decide ((byt s k) ≠ 95))) (bT h34) rfl ?_)
     refine Wnt ?_
     refine WC.condP ((byt s k) ≠ 95) rfl (fun h35 => ?_) (fun h35 => ?_)
     ·refine WC.seq ?_
      refine WC.region ?_
      refine W1 (OpT.assign (.bool false) rfl ?_)
      refine Wnt ?_
      refine WC.ret <| blkQ_r <| thenQ_r <| loopQ_r <| blkQ_r <| thenQ_r <| retQ.one (.bool false) rfl ?_
      exact ⟨_, rfl, by rw [wordB, all_range_false _ k _ (by omega) (by simp [ltrB]; omega)]; simp, (St.selT [Byt b5 5 s] [] rfl (by decide) st12)⟩
     refine WC.skip ?_
     refine blkQ_n ?_
     refine thenQ_n ?_
     refine WC.region ?_
     refine W1 (OpT.iadd .i64 (((k : Nat) : Int)) (1) (((k + 1 : Nat) : Int)) hs14 rfl (wadd (a := k) (b := 1) (by omega)) ?_)
     refine W1 (OpT.move (ni (k + 1)) rfl ?_)
     refine WL.nil ?_
     exact loopQ_n _ (by omega) ⟨k + 1, rfl, by omega, by unfold Hid; rw [all_range_succ, HP.out]; simp [ltrB]; omega, rfl, hs15, hs16, st12⟩
    refine WL.pass (dj := 58) (c := false) rfl rfl rfl (bF h34) rfl ?_
    refine WL.pass (dj := 58) (c := false) rfl rfl rfl (bF h34) rfl ?_
    refine W1 (OpT.pickF (.bool false) (bF h34) rfl ?_)
    refine Wnt ?_
    refine WC.condF rfl ?_
    refine WC.skip ?_
    refine blkQ_n ?_
    refine thenQ_n ?_
    refine WC.region ?_
    refine W1 (OpT.iadd .i64 (((k : Nat) : Int)) (1) (((k + 1 : Nat) : Int)) hs14 rfl (wadd (a := k) (b := 1) (by omega)) ?_)
    refine W1 (OpT.move (ni (k + 1)) rfl ?_)
    refine WL.nil ?_
    exact loopQ_n _ (by omega) ⟨k + 1, rfl, by omega, by unfold Hid; rw [all_range_succ, HP.out]; simp [ltrB]; omega, rfl, hs15, hs16, st12⟩
   refine W2 (dj := 45) (bF h31) (OpT.move (.int .u8 (byt s k)) rfl ?_)
   refine W2 (dj := 45) (bF h31) (OpT.igt .u8 (byt s k) (90) rfl rfl ?_)
   refine W2 (dj := 42) (bT h30) (OpT.pickF (.bool (decide (90 < (byt s k)))) (bF h31) rfl ?_)
   refine W1 (OpT.pickT (.bool (decide (90 < (byt s k)))) (bT h30) rfl ?_)
   refine W1 (OpT.move (.bool (decide (90 < (byt s k)))) rfl ?_)
   by_cases h36 : 90 < (byt s k)
   ·refine W2 (dj := 50) (bT h36) (OpT.move (.int .u8 (byt s k)) rfl ?_)
    refine W2 (dj := 50) (bT h36) (OpT.ilt .u8 (byt s k) (48) rfl rfl ?_)
    refine W2 (dj := 50) (bT h36) (OpT.move (.bool (decide ((byt s k) < 48))) rfl ?_)
    by_cases h37 : (byt s k) < 48
    ·refine WL.pass (dj := 53) (c := true) rfl rfl rfl (bT h37) rfl ?_
     refine WL.pass (dj := 53) (c := true) rfl rfl rfl (bT h37) rfl ?_
     refine W2 (dj := 50) (bT h36) (OpT.pickT (.bool true) (bT h37) rfl ?_)
     refine W1 (OpT.pickT (.bool true) (bT h36) rfl ?_)
     refine W1 (OpT.move (.bool true) rfl ?_)
     refine W2 (dj := 58) rfl (OpT.move (.int .u8 (byt s k)) rfl ?_)
     refine W2 (dj := 58) rfl (OpT.ine .u8 (byt s k) (95) rfl rfl ?_)
     refine W1 (OpT.pickT (.bool (decide ((byt s k) ≠ 95))) rfl rfl ?_)
     refine Wnt ?_
     refine WC.condP ((byt s k) ≠ 95) rfl (fun h38 => ?_) (fun h38 => ?_)
     ·refine WC.seq ?_
      refine WC.region ?_
      refine W1 (OpT.assign (.bool false) rfl ?_)
      refine Wnt ?_
      refine WC.ret <| blkQ_r <| thenQ_r <| loopQ_r <| blkQ_r <| thenQ_r <| retQ.one (.bool false) rfl ?_
      exact ⟨_, rfl, by rw [wordB, all_range_false _ k _ (by omega) (by simp [ltrB]; omega)]; simp, (St.selT [Byt b5 5 s] [] rfl (by decide) st12)⟩
     refine WC.skip ?_
     refine blkQ_n ?_
     refine thenQ_n ?_
     refine WC.region ?_
     refine W1 (OpT.iadd .i64 (((k : Nat) : Int)) (1) (((k + 1 : Nat) : Int)) hs14 rfl (wadd (a := k) (b := 1) (by omega)) ?_)
     refine W1 (OpT.move (ni (k + 1)) rfl ?_)
     refine WL.nil ?_
     exact loopQ_n _ (by omega) ⟨k + 1, rfl, by omega, by unfold Hid; rw [all_range_succ, HP.out]; simp [ltrB]; omega, rfl, hs15, hs16, st12⟩
    refine W2 (dj := 53) (bF h37) (OpT.move (.int .u8 (byt s k)) rfl ?_)
    refine W2 (dj := 53) (bF h37) (OpT.igt .u8 (byt s k) (57) rfl rfl ?_)
    refine W2 (dj := 50) (bT h36) (OpT.pickF (.bool (decide (57 < (byt s k)))) (bF h37) rfl ?_)
    refine W1 (OpT.pickT (.bool (decide (57 < (byt s k)))) (bT h36) rfl ?_)
    refine W1 (OpT.move (.bool (decide (57 < (byt s k)))) rfl ?_)
    by_cases h39 : 57 < (byt s k)
    ·refine W2 (dj := 58) (bT h39) (OpT.move (.int .u8 (byt s k)) rfl ?_)
     refine W2 (dj := 58) (bT h39) (OpT.ine .u8 (byt s k) (95) rfl rfl ?_)
     refine W1 (OpT.pickT (.bool (decide ((byt s k) ≠ 95))) (bT h39) rfl ?_)
     refine Wnt ?_
     refine WC.condP ((byt s k) ≠ 95) rfl (fun h40 => ?_) (fun h40 => ?_)
     ·refine WC.seq ?_
      refine WC.region ?_
      refine W1 (OpT.assign (.bool false) rfl ?_)
      refine Wnt ?_
      refine WC.ret <| blkQ_r <| thenQ_r <| loopQ_r <| blkQ_r <| thenQ_r <| retQ.one (.bool false) rfl ?_
      exact ⟨_, rfl, by rw [wordB, all_range_false _ k _ (by omega) (by simp [ltrB]; omega)]; simp, (St.selT [Byt b5 5 s] [] rfl (by decide) st12)⟩
     refine WC.skip ?_
     refine blkQ_n ?_
     refine thenQ_n ?_
     refine WC.region ?_
     refine W1 (OpT.iadd .i64 (((k : Nat) : Int)) (1) (((k + 1 : Nat) : Int)) hs14 rfl (wadd (a := k) (b := 1) (by omega)) ?_)
     refine W1 (OpT.move (ni (k + 1)) rfl ?_)
     refine WL.nil ?_
     exact loopQ_n _ (by omega) ⟨k + 1, rfl, by omega, by unfold Hid; rw [all_range_succ, HP.out]; simp [ltrB]; omega, rfl, hs15, hs16, st12⟩
    refine WL.pass (dj := 58) (c := false) rfl rfl rfl (bF h39) rfl ?_
    refine WL.pass (dj := 58) (c := false) rfl rfl rfl (bF h39) rfl ?_
    refine W1 (OpT.pickF (.bool false) (bF h39) rfl ?_)
    refine Wnt ?_
    refine WC.condF rfl ?_
    refine WC.skip ?_
    refine blkQ_n ?_
    refine thenQ_n ?_
    refine WC.region ?_
    refine W1 (OpT.iadd .i64 (((k : Nat) : Int)) (1) (((k + 1 : Nat) : Int)) hs14 rfl (wadd (a := k) (b := 1) (by omega)) ?_)
    refine W1 (OpT.move (ni (k + 1)) rfl ?_)
    refine WL.nil ?_
    exact loopQ_n _ (by omega) ⟨k + 1, rfl, by omega, by unfold Hid; rw [all_range_succ, HP.out]; simp [ltrB]; omega, rfl, hs15, hs16, st12⟩
   refine WL.pass (dj := 50) (c := false) rfl rfl rfl (bF h36) rfl ?_
   refine WL.pass (dj := 50) (c := false) rfl rfl rfl (bF h36) rfl ?_
   refine WL.pass (dj := 50) (c := false) rfl rfl rfl (bF h36) rfl ?_
   refine WL.passU (dj := 53) rfl rfl rfl ?_
   refine WL.passU (dj := 53) rfl rfl rfl ?_
   refine WL.pass (dj := 50) (c := false) rfl rfl rfl (bF h36) rfl ?_
   refine W1 (OpT.pickF (.bool false) (bF h36) rfl ?_)
   refine W1 (OpT.move (.bool false) rfl ?_)
   refine WL.pass (dj := 58) (c := false) rfl rfl rfl rfl rfl ?_
   refine WL.pass (dj := 58) (c := false) rfl rfl rfl rfl rfl ?_
   refine W1 (OpT.pickF (.bool false) rfl rfl ?_)
   refine Wnt ?_
   refine WC.condF rfl ?_
   refine WC.skip ?_
   refine blkQ_n ?_
   refine thenQ_n ?_
   refine WC.region ?_
   refine W1 (OpT.iadd .i64 (((k : Nat) : Int)) (1) (((k + 1 : Nat) : Int)) hs14 rfl (wadd (a := k) (b := 1) (by omega)) ?_)
   refine W1 (OpT.move (ni (k + 1)) rfl ?_)
   refine WL.nil ?_
   exact loopQ_n _ (by omega) ⟨k + 1, rfl, by omega, by unfold Hid; rw [all_range_succ, HP.out]; simp [ltrB]; omega, rfl, hs15, hs16, st12⟩
  refine WL.pass (dj := 42) (c := false) rfl rfl rfl (bF h30) rfl ?_
  refine WL.pass (dj := 42) (c := false) rfl rfl rfl (bF h30) rfl ?_
  refine WL.pass (dj := 42) (c := false) rfl rfl rfl (bF h30) rfl ?_
  refine WL.passU (dj := 45) rfl rfl rfl ?_
  refine WL.passU (dj := 45) rfl rfl rfl ?_
  refine WL.pass (dj := 42) (c := false) rfl rfl rfl (bF h30) rfl ?_
  refine W1 (OpT.pickF (.bool false) (bF h30) rfl ?_)
  refine W1 (OpT.move (.bool false) rfl ?_)
  refine WL.pass (dj := 50) (c := false) rfl rfl rfl rfl rfl ?_
  refine WL.pass (dj := 50) (c := false) rfl rfl rfl rfl rfl ?_
  refine WL.pass (dj := 50) (c := false) rfl rfl rfl rfl rfl ?_
  refine WL.passU (dj := 53) rfl rfl rfl ?_
  refine WL.passU (dj := 53) rfl rfl rfl ?_
  refine WL.pass (dj := 50) (c := false) rfl rfl rfl rfl rfl ?_
  refine W1 (OpT.pickF (.bool false) rfl rfl ?_)
  refine W1 (OpT.move (.bool false) rfl ?_)
  refine WL.pass (dj := 58) (c := false) rfl rfl rfl rfl rfl ?_
  refine WL.pass (dj := 58) (c := false) rfl rfl rfl rfl rfl ?_
  refine W1 (OpT.pickF (.bool false) rfl rfl ?_)
  refine Wnt ?_
  refine WC.condF rfl ?_
  refine WC.skip ?_
  refine blkQ_n ?_
  refine thenQ_n ?_
  refine WC.region ?_
  refine W1 (OpT.iadd .i64 (((k : Nat) : Int)) (1) (((k + 1 : Nat) : Int)) hs14 rfl (wadd (a := k) (b := 1) (by omega)) ?_)
  refine W1 (OpT.move (ni (k + 1)) rfl ?_)
  refine WL.nil ?_
  exact loopQ_n _ (by omega) ⟨k + 1, rfl, by omega, by unfold Hid; rw [all_range_succ, HP.out]; simp [ltrB]; omega, rfl, hs15, hs16, st12⟩
 refine WC.exit ?_
 refine thenQ_x ?_
 refine loopQ_x ?_
 refine blkQ_hit ?_
 refine thenQ_n ?_
 refine Wsr ?_
 refine W1 (OpT.assign (.bool true) rfl ?_)
 refine Wnt ?_
 refine WC.ret <| retQ.one (.bool true) rfl ?_
 obtain rfl : k = s.size := by omega
 exact ⟨_, rfl, by have e := HP.out; simp only [wordB, e, decide_eq_false ‹¬(s.size : Int) = 0›, decide_eq_false ‹¬120 < (s.size : Int)›, decide_eq_false ‹¬byt s 0 < a›, decide_eq_false ‹¬z < byt s 0›]; rfl, (St.selT [Byt b5 5 s] [] rfl (by decide) st12)⟩

end Go.Ped
