/- Checks of values and terms. -/
import Derived.Test.YtojkakpkmfopbaaDat
import Derived.Test.YtojkakpkmfopbaaProg
set_option linter.unusedVariables false
set_option maxRecDepth 20000
namespace Go.Ped
open Go Go.Eng Go.RowKit Go.Proofs

theorem tf36_0 : fieldB Try.prog 36 0 = some 0 := by kernel_rfl
theorem ta34 : aggB Try.prog 34 = some false := by kernel_rfl
theorem tf36_2 : fieldB Try.prog 36 2 = some 2 := by kernel_rfl
theorem ta9 : aggB Try.prog 9 = some false := by kernel_rfl
theorem tf36_1 : fieldB Try.prog 36 1 = some 1 := by kernel_rfl
theorem ta2 : aggB Try.prog 2 = some false := by kernel_rfl
theorem tu9 : Try.prog.underlying 9 = some (.string) := by kernel_rfl
def chkVal (v : Val) : Bool := (decide (v.kind = 1) && decide (v.text = ⟨#[]⟩)) || (decide (v.kind = 2) && (decide (v.num = 0) && decide ((v.text.size : Int) ≤ 200)))
    def errn (b : Bool) (n : Int) : Int := if b then 0 else n
theorem value_Check_spec {Z : Nat → Prop} {w0 w : World} {L : List Res} (st : St Z w0 w L) (v : Val) : Calls Try.prog 72 #[(.agg #[(.int .i8 (v.kind)), (.int .i64 (v.num)), (.string v.text)])] w (Ret fun r w' => r = .int .i64 (errn (chkVal v) 10) ∧ St Z w0 w' L) := by
 refine calls_of_WC (m := 21) (rs := [.tmp 2]) Try.func72 rfl rfl rfl rfl ?_
 refine Wsr ?_
 refine W1 (OpT.box st (.agg #[(.int .i8 (v.kind)), (.int .i64 (v.num)), (.string v.text)]) [(.int .i8 (v.kind)), (.int .i64 (v.num)), (.string v.text)] rfl rfl (fun b1 w2 st3 => ?_))
 refine W1 (OpT.assign (ii 0) rfl ?_)
 refine Wnt ?_
 refine WC.seq ?_
 refine Wsr ?_
 refine W1 (OpT.field 0 ⟨b1, 0, none⟩ ⟨b1, 0, none⟩ tf36_0 rfl rfl ?_)
 refine W1 (OpT.loadS ⟨b1, 0, none⟩ (.int .i8 (v.kind)) ta34 rfl (st3.cellB (i := 0) rfl rfl) ?_)
 refine Wnt ?_
 refine WC.block ?_
 refine Wsr ?_
 refine W1 (OpT.ieq .i8 (v.kind) (1) rfl rfl ?_)
 refine W1 (OpT.assign (.bool (decide (v.kind = 1))) rfl ?_)
 refine Wnt ?_
 refine WC.condP (v.kind = 1) rfl (fun h4 => ?_) (fun h4 => ?_)
 ·refine WC.seq ?_
  refine WC.region ?_
  refine W1 (OpT.field 2 ⟨b1, 0, none⟩ ⟨b1, 2, none⟩ tf36_2 rfl rfl ?_)
  refine W1 (OpT.loadS ⟨b1, 2, none⟩ (.string v.text) ta9 rfl (st3.cellB (i := 0) rfl rfl) ?_)
  refine W1 (OpT.seq (v.text) ((⟨#[]⟩ : ByteArray)) rfl rfl ?_)
  refine Wnt ?_
  refine WC.condP (v.text = (⟨#[]⟩ : ByteArray)) rfl (fun h5 => ?_) (fun h5 => ?_)
  ·refine WC.seq ?_
   refine WC.region ?_
   refine W1 (OpT.assign (ii 0) rfl ?_)
   refine Wnt ?_
   refine WC.ret <| blkQ_r <| thenQ_r <| retQ.one (ii 0) rfl ?_
   exact ⟨_, rfl, by simp [chkVal, errn, *], (St.selT [Blk b1 36 [(.int .i8 (v.kind)), (.int .i64 (v.num)), (.string v.text)]] [] rfl (by decide) st3)⟩
  refine WC.skip ?_
  refine blkQ_n ?_
  refine thenQ_n ?_
  refine Wsr ?_
  refine W1 (OpT.assign (ii 10) rfl ?_)
  refine Wnt ?_
  refine WC.ret <| retQ.one (ii 10) rfl ?_
  exact ⟨_, rfl, by simp [chkVal, errn, *], (St.selT [Blk b1 36 [(.int .i8 (v.kind)), (.int .i64 (v.num)), (.string v.text)]] [] rfl (by decide) st3)⟩
 refine Wsr ?_
 refine W1 (OpT.ieq .i8 (v.kind) (2) rfl rfl ?_)
 refine W1 (OpT.assign (.bool (decide (v.kind = 2))) rfl ?_)
 refine Wnt ?_
 refine WC.condP (v.kind = 2) rfl (fun h6 => ?_) (fun h6 => ?_)
 ·refine WC.seq ?_
  refine WC.region ?_
  refine W1 (OpT.field 1 ⟨b1, 0, none⟩ ⟨b1, 1, none⟩ tf36_1 rfl rfl ?_)
  refine W1 (OpT.loadS ⟨b1, 1, none⟩ (.int .i64 (v.num)) ta2 rfl (st3.cellB (i := 0) rfl rfl) ?_)
  refine W1 (OpT.ieq .i64 (v.num) (0) rfl rfl ?_)
  refine W1 (OpT.move (.bool (decide (v.num = 0))) rfl ?_)
  by_cases h7 : v.num = 0
  ·refine W2 (dj := 15) (bT h7) (OpT.field 2 ⟨b1, 0, none⟩ ⟨b1, 2, none⟩ tf36_2 rfl rfl ?_)
   refine W2 (dj := 15) (bT h7) (OpT.loadS ⟨b1, 2, none⟩ (.string v.text) ta9 rfl (st3.cellB (i := 0) rfl rfl) ?_)
   refine W2 (dj := 15) (bT h7) (OpT.lenStr (v.text) rfl tu9 rfl ?_)
   refine W2 (dj := 15) (bT h7) (OpT.ile .i64 (((v.text.size : Nat) : Int)) (200) rfl rfl ?_)
   refine W1 (OpT.pickT (.bool (decide (((v.text.size : Nat) : Int) ≤ 200))) (bT h7) rfl ?_)
   refine Wnt ?_
   refine WC.condP (((v.text.size : Nat) : Int) ≤ 200) rfl (fun h8 => ?_) (fun h8 => ?_)
   ·refine WC.seq ?_
    refine WC.region ?_
    refine W1 (OpT.assign (ii 0) rfl ?_)
    refine Wnt ?_
    refine WC.ret <| blkQ_r <| thenQ_r <| retQ.one (ii 0) rfl ?_
    exact ⟨_, rfl, by simp [chkVal, errn, *], (St.selT [Blk b1 36 [(.int .i8 (v.kind)), (.int .i64 (v.num)), (.string v.text)]] [] rfl (by decide) st3)⟩
   refine WC.skip ?_
   refine blkQ_n ?_
   refine thenQ_n ?_
   refine Wsr ?_
   refine W1 (OpT.assign (ii 10) rfl ?_)
   refine Wnt ?_
   refine WC.ret <| retQ.one (ii 10) rfl ?_
   exact ⟨_, rfl, by simp [chkVal, errn, *], (St.selT [Blk b1 36 [(.int .i8 (v.kind)), (.int .i64 (v.num)), (.string v.text)]] [] rfl (by decide) st3)⟩
  refine WL.pass (dj := 15) (c := false) rfl rfl rfl (bF h7) rfl ?_
  refine WL.pass (dj := 15) (c := false) rfl rfl rfl (bF h7) rfl ?_
  refine WL.pass (dj := 15) (c := false) rfl rfl rfl (bF h7) rfl ?_
  refine WL.pass (dj := 15) (c := false) rfl rfl rfl (bF h7) rfl ?_
  refine W1 (OpT.pickF (.bool false) (bF h7) rfl ?_)
  refine Wnt ?_
  refine WC.condF rfl ?_
  refine WC.skip ?_
  refine blkQ_n ?_
  refine thenQ_n ?_
  refine Wsr ?_
  refine W1 (OpT.assign (ii 10) rfl ?_)
  refine Wnt ?_
  refine WC.ret <| retQ.one (ii 10) rfl ?_
  exact ⟨_, rfl, by simp [chkVal, errn, *], (St.selT [Blk b1 36 [(.int .i8 (v.kind)), (.int .i64 (v.num)), (.string v.text)]] [] rfl (by decide) st3)⟩
 refine WC.skip ?_
 refine blkQ_n ?_
 refine thenQ_n ?_
 refine Wsr ?_
 refine W1 (OpT.assign (ii 10) rfl ?_)
 refine Wnt ?_
 refine WC.ret <| retQ.one (ii 10) rfl ?_
 exact ⟨_, rfl, by simp [chkVal, errn, *], (St.selT [Blk b1 36 [(.int .i8 (v.kind)), (.int .i64 (v.num)), (.string v.text)]] [] rfl (by decide) st3)⟩

end Go.Ped
