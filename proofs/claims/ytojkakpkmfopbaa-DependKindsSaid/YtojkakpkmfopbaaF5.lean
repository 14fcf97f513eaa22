/- Expressions, atoms, literals, by themselves. -/
import Derived.Test.YtojkakpkmfopbaaF4
set_option linter.unusedVariables false
set_option maxRecDepth 20000
namespace Go.Ped
open Go Go.Eng Go.RowKit Go.Proofs

theorem tf59_0 : fieldB Try.prog 59 0 = some 0 := by kernel_rfl
theorem ta56 : aggB Try.prog 56 = some false := by kernel_rfl
theorem tf59_1 : fieldB Try.prog 59 1 = some 1 := by kernel_rfl
theorem cal57 : CallOk Try.prog 57 := ⟨⟨Try.f57, Try.func57, rfl, by decide⟩⟩
theorem tf59_2 : fieldB Try.prog 59 2 = some 5 := by kernel_rfl
theorem ta57 : aggB Try.prog 57 = some false := by kernel_rfl
theorem ta3 : aggB Try.prog 3 = some false := by kernel_rfl
theorem cal68 : CallOk Try.prog 68 := ⟨⟨Try.f68, Try.func68, rfl, by decide⟩⟩
theorem cal56 : CallOk Try.prog 56 := ⟨⟨Try.f56, Try.func56, rfl, by decide⟩⟩
theorem fmix : Try.prog.follows .mixedOrders = true := by kernel_rfl
theorem cal74 : CallOk Try.prog 74 := ⟨⟨Try.f74, Try.func74, rfl, by decide⟩⟩
theorem cal76 : CallOk Try.prog 76 := ⟨⟨Try.f76, Try.func76, rfl, by decide⟩⟩
theorem cal75 : CallOk Try.prog 75 := ⟨⟨Try.f75, Try.func75, rfl, by decide⟩⟩
theorem tf54_0 : fieldB Try.prog 54 0 = some 0 := by kernel_rfl
theorem cal42 : CallOk Try.prog 42 := ⟨⟨Try.f42, Try.func42, rfl, by decide⟩⟩
theorem tf54_1 : fieldB Try.prog 54 1 = some 1 := by kernel_rfl
theorem ta52 : aggB Try.prog 52 = some false := by kernel_rfl
theorem cal67 : CallOk Try.prog 67 := ⟨⟨Try.f67, Try.func67, rfl, by decide⟩⟩
theorem cal66 : CallOk Try.prog 66 := ⟨⟨Try.f66, Try.func66, rfl, by decide⟩⟩
theorem tf40_0 : fieldB Try.prog 40 0 = some 0 := by kernel_rfl
theorem ta33 : aggB Try.prog 33 = some false := by kernel_rfl
theorem tf40_1 : fieldB Try.prog 40 1 = some 1 := by kernel_rfl
theorem tf61_0 : fieldB Try.prog 61 0 = some 0 := by kernel_rfl
theorem ta51 : aggB Try.prog 51 = some false := by kernel_rfl
theorem tf61_2 : fieldB Try.prog 61 2 = some 3 := by kernel_rfl
theorem ta55 : aggB Try.prog 55 = some false := by kernel_rfl
theorem tf61_3 : fieldB Try.prog 61 3 = some 4 := by kernel_rfl
theorem cal58 : CallOk Try.prog 58 := ⟨⟨Try.f58, Try.func58, rfl, by decide⟩⟩
theorem tf61_4 : fieldB Try.prog 61 4 = some 10 := by kernel_rfl
theorem tf61_1 : fieldB Try.prog 61 1 = some 1 := by kernel_rfl
theorem ta54 : aggB Try.prog 54 = some true := by kernel_rfl
theorem ts54 : sizeB Try.prog 54 = some 2 := by kernel_rfl
theorem cal59 : CallOk Try.prog 59 := ⟨⟨Try.f59, Try.func59, rfl, by decide⟩⟩
theorem cal60 : CallOk Try.prog 60 := ⟨⟨Try.f60, Try.func60, rfl, by decide⟩⟩
def emptyB (e : Exp) : Bool := decide (e.op = 0) && (decide (e.term = zTrm) && decide ((e.kids.length : Int) = 0))
theorem empty_spec {Z : Nat → Prop} {w0 w : World} {L : List Res} (st : St Z w0 w L) (e : Exp) (kv : Value) (hk : rExp.sl Z w0 kv e.kids) : Calls Try.prog 58 #[(.agg #[(.int .i8 (e.op)), (.string e.term.var), (.int .i8 (e.term.val.kind)), (.int .i64 (e.term.val.num)), (.string e.term.val.text), kv])] w (Ret fun r w' => r = .bool (emptyB e) ∧ St Z w0 w' L) := by
 refine calls_of_WC (m := 17) (rs := [.tmp 2]) Try.func58 rfl rfl rfl rfl ?_
 refine Wsr ?_
 refine W1 (OpT.box st (.agg #[(.int .i8 (e.op)), (.string e.term.var), (.int .i8 (e.term.val.kind)), (.int .i64 (e.term.val.num)), (.string e.term.val.text), kv]) [(.int .i8 (e.op)), (.string e.term.var), (.int .i8 (e.term.val.kind)), (.int .i64 (e.term.val.num)), (.string e.term.val.text), kv] rfl rfl (fun b1 w2 st3 => ?_))
 refine W1 (OpT.assign (.bool false) rfl ?_)
 refine Wns ?_
 refine W1 (OpT.field 0 ⟨b1, 0, none⟩ ⟨b1, 0, none⟩ tf59_0 rfl rfl ?_)
 refine W1 (OpT.loadS ⟨b1, 0, none⟩ (.int .i8 (e.op)) ta56 rfl (st3.cellB (i := 0) rfl rfl) ?_)
 refine W1 (OpT.ieq .i8 (e.op) (0) rfl rfl ?_)
 refine W1 (OpT.move (.bool (decide (e.op = 0))) rfl ?_)
 by_cases h4 : e.op = 0
 ·refine W2 (dj := 6) (bT h4) (OpT.field 1 ⟨b1, 0, none⟩ ⟨b1, 1, none⟩ tf59_1 rfl rfl ?_)
  refine W2 (dj := 6) (bT h4) (OpT.loadA ⟨b1, 1, none⟩ 4 [(.string e.term.var), (.int .i8 (e.term.val.kind)), (.int .i64 (e.term.val.num)), (.string e.term.val.text)] ta38 ts38 rfl ((st3.rowB (i := 0) rfl).part 1 4) rfl ?_)
  refine W2 (dj := 6) (bT h4) (OpT.callS cal57 [] [] [(.agg #[(.string e.term.var), (.int .i8 (e.term.val.kind)), (.int .i64 (e.term.val.num)), (.string e.term.val.text)])] rfl (ca1 rfl) (none_spec st3 e.term) ?_)
  rintro v5 w6 ⟨rfl, st7⟩
  refine W1 (OpT.pickT (.bool (decide (e.term = zTrm))) (bT h4) rfl ?_)
  refine W1 (OpT.move (.bool (decide (e.term = zTrm))) rfl ?_)
  by_cases h8 : e.term = zTrm
  ·refine W2 (dj := 11) (bT h8) (OpT.field 5 ⟨b1, 0, none⟩ ⟨b1, 5, none⟩ tf59_2 rfl rfl ?_)
   refine W2 (dj := 11) (bT h8) (OpT.loadS ⟨b1, 5, none⟩ kv ta57 rfl (st7.cellB (i := 0) rfl rfl) ?_)
   refine W2 (dj := 11) (bT h8) (OpT.lenR rfl tu57 hk rfl ?_)
   refine W2 (dj := 11) (bT h8) (OpT.ieq .i64 (((e.kids.length : Nat) : Int)) (0) rfl rfl ?_)
   refine W1 (OpT.pickT (.bool (decide (((e.kids.length : Nat) : Int) = 0))) (bT h8) rfl ?_)
   refine W1 (OpT.assign (.bool (decide (((e.kids.length : Nat) : Int) = 0))) rfl ?_)
   refine Wnt ?_
   refine WC.ret <| retQ.one (.bool (decide (((e.kids.length : Nat) : Int) = 0))) rfl ?_
   exact ⟨_, rfl, by simp [emptyB, *], (St.selT [Blk b1 59 [(.int .i8 (e.op)), (.string e.term.var), (.int .i8 (e.term.val.kind)), (.int .i64 (e.term.val.num)), (.string e.term.val.text), kv]] [] rfl (by decide) st7)⟩
  refine WL.pass (dj := 11) (c := false) rfl rfl rfl (bF h8) rfl ?_
  refine WL.pass (dj := 11) (c := false) rfl rfl rfl (bF h8) rfl ?_
  refine WL.pass (dj := 11) (c := false) rfl rfl rfl (bF h8) rfl ?_
  refine WL.pass (dj := 11) (c := false) rfl rfl rfl (bF h8) rfl ?_
  refine W1 (OpT.pickF (.bool false) (bF h8) rfl ?_)
  refine W1 (OpT.assign (.bool false) rfl ?_)
  refine Wnt ?_
  refine WC.ret <| retQ.one (.bool false) rfl ?_
  exact ⟨_, rfl, by simp [emptyB, *], (St.selT [Blk b1 59 [(.int .i8 (e.op)), (.string e.term.var), (.int .i8 (e.term.val.kind)), (.int .i64 (e.term.val.num)), (.string e.term.val.text), kv]] [] rfl (by decide) st7)⟩
 refine WL.pass (dj := 6) (c := false) rfl rfl rfl (bF h4) rfl ?_
 refine WL.pass (dj := 6) (c := false) rfl rfl rfl (bF h4) rfl ?_
 refine WL.pass (dj := 6) (c := false) rfl rfl rfl (bF h4) rfl ?_
 refine W1 (OpT.pickF (.bool false) (bF h4) rfl ?_)
 refine W1 (OpT.move (.bool false) rfl ?_)
 refine WL.pass (dj := 11) (c := false) rfl rfl rfl rfl rfl ?_
 refine WL.pass (dj := 11) (c := false) rfl rfl rfl rfl rfl ?_
 refine WL.pass (dj := 11) (c := false) rfl rfl rfl rfl rfl ?_
 refine WL.pass (dj := 11) (c := false) rfl rfl rfl rfl rfl ?_
 refine W1 (OpT.pickF (.bool false) rfl rfl ?_)
 refine W1 (OpT.assign (.bool false) rfl ?_)
 refine Wnt ?_
 refine WC.ret <| retQ.one (.bool false) rfl ?_
 exact ⟨_, rfl, by simp [emptyB, *], (St.selT [Blk b1 59 [(.int .i8 (e.op)), (.string e.term.var), (.int .i8 (e.term.val.kind)), (.int .i64 (e.term.val.num)), (.string e.term.val.text), kv]] [] rfl (by decide) st3)⟩

def deepB : Nat → Exp → Bool
  | 0, _ => false
  | n + 1, e => if e.op = 0 then decide ((e.kids.length : Int) = 0) && solidB e.term else if ¬ e.term = zTrm then false else if (e.kids.length : Int) ≠ arityF e.op then false else !(e.kids.any (fun k => !deepB n k))
theorem deep_zero {Z : Nat → Prop} {w0 w : World} {L : List Res} (st : St Z w0 w L) (e : Exp) (kv : Value) (hk : rExp.sl Z w0 kv e.kids) : Calls Try.prog 68 #[(.agg #[(.int .i8 (e.op)), (.string e.term.var), (.int .i8 (e.term.val.kind)), (.int .i64 (e.term.val.num)), (.string e.term.val.text), kv]), (ni 0)] w (Ret fun r w' => r = .bool (deepB 0 e) ∧ St Z w0 w' L) := by
 have h00 : ((0 : Nat) : Int) = 0 := rfl
 refine calls_of_WC (m := 37) (rs := [.tmp 4]) Try.func68 rfl rfl rfl rfl ?_
 refine Wsr ?_
 refine W1 (OpT.box st (.agg #[(.int .i8 (e.op)), (.string e.term.var), (.int .i8 (e.term.val.kind)), (.int .i64 (e.term.val.num)), (.string e.term.val.text), kv]) [(.int .i8 (e.op)), (.string e.term.var), (.int .i8 (e.term.val.kind)), (.int .i64 (e.term.val.num)), (.string e.term.val.text), kv] rfl rfl (fun b1 w2 st3 => ?_))
 refine W1 (OpT.box st3 (ni 0) [(ni 0)] rfl rfl (fun b4 w5 st6 => ?_))
 refine W1 (OpT.assign (.bool false) rfl ?_)
 refine Wnt ?_
 refine WC.seq ?_
 refine Wsr ?_
 refine W1 (OpT.loadS ⟨b4, 0, none⟩ (ni 0) ta3 rfl (st6.cellB (i := 0) rfl rfl) ?_)
 refine W1 (OpT.ieq .i64 (((0 : Nat) : Int)) (0) rfl rfl ?_)
 refine Wnt ?_
 refine WC.condT (bT h00) ?_
 refine Wsr ?_
 refine W1 (OpT.assign (.bool false) rfl ?_)
 refine Wnt ?_
 refine WC.ret <| thenQ_r <| retQ.one (.bool false) rfl ?_
 exact ⟨_, rfl, rfl, (St.selT [Blk b4 3 [(ni 0)], Blk b1 59 [(.int .i8 (e.op)), (.string e.term.var), (.int .i8 (e.term.val.kind)), (.int .i64 (e.term.val.num)), (.string e.term.val.text), kv]] [] rfl (by decide) st6)⟩

theorem deep1_spec (n : Nat) (hn : n < 1000) (ih : ∀ {Z : Nat → Prop} {w0 w : World} {L : List Res} (_ : St Z w0 w L) (e : Exp) (kv : Value) (_ : rExp.sl Z w0 kv e.kids), Calls Try.prog 68 #[(.agg #[(.int .i8 (e.op)), (.string e.term.var), (.int .i8 (e.term.val.kind)), (.int .i64 (e.term.val.num)), (.string e.term.val.text), kv]), (.int .i64 ((n : Nat) : Int))] w (Ret fun r w' => r = .bool (deepB (n) e) ∧ St Z w0 w' L)) {Z : Nat → Prop} {w0 w : World} {L : List Res} (b : Nat) (st : St Z w0 w (Blk b 3 [(ni (n + 1))] :: L)) (e : Exp) (kv : Value) (hk : rExp.sl Z w0 kv e.kids) : Calls Try.prog 76 #[(.agg #[(.int .i8 (e.op)), (.string e.term.var), (.int .i8 (e.term.val.kind)), (.int .i64 (e.term.val.num)), (.string e.term.val.text), kv]), (pt b 0)] w (Ret fun r w' => r = .bool (!deepB n e) ∧ St Z w0 w' (Blk b 3 [(ni (n + 1))] :: L)) := by
 refine calls_of_WC (m := 9) (rs := [.tmp 3]) Try.func76 rfl rfl rfl rfl ?_
 refine Wsr ?_
 refine W1 (OpT.box st (.agg #[(.int .i8 (e.op)), (.string e.term.var), (.int .i8 (e.term.val.kind)), (.int .i64 (e.term.val.num)), (.string e.term.val.text), kv]) [(.int .i8 (e.op)), (.string e.term.var), (.int .i8 (e.term.val.kind)), (.int .i64 (e.term.val.num)), (.string e.term.val.text), kv] rfl rfl (fun b1 w2 st3 => ?_))
 refine W1 (OpT.assign (.bool false) rfl ?_)
 refine Wns ?_
 refine W1 (OpT.loadA ⟨b1, 0, none⟩ 6 [(.int .i8 (e.op)), (.string e.term.var), (.int .i8 (e.term.val.kind)), (.int .i64 (e.term.val.num)), (.string e.term.val.text), kv] ta59 ts59 rfl ((st3.rowB (i := 0) rfl).part 0 6) rfl ?_)
 refine W1 (OpT.loadS ⟨b, 0, none⟩ (ni (n + 1)) ta3 rfl (st3.cellB (i := 1) rfl rfl) ?_)
 refine W1 (OpT.isub .i64 (((n + 1 : Nat) : Int)) (1) (((n : Nat) : Int)) rfl rfl (wsub1 (by omega)) ?_)
 refine W1 (OpT.callS cal68 [] [] [(.agg #[(.int .i8 (e.op)), (.string e.term.var), (.int .i8 (e.term.val.kind)), (.int .i64 (e.term.val.num)), (.string e.term.val.text), kv]), (ni n)] rfl (ca2 rfl rfl) (ih st3 e _ hk) ?_)
 rintro v4 w5 ⟨rfl, st6⟩
 refine W1 (OpT.not (deepB n e) rfl ?_)
 refine W1 (OpT.assign (.bool (!(deepB n e))) rfl ?_)
 refine Wnt ?_
 refine WC.ret <| retQ.one (.bool (!(deepB n e))) rfl ?_
 exact ⟨_, rfl, rfl, (St.selT [Blk b1 59 [(.int .i8 (e.op)), (.string e.term.var), (.int .i8 (e.term.val.kind)), (.int .i64 (e.term.val.num)), (.string e.term.val.text), kv], Blk b 3 [(ni (n + 1))]] [1] rfl (by decide) st6)⟩

theorem deep_succ (n : Nat) (hn : n < 1000) (ih : ∀ {Z : Nat → Prop} {w0 w : World} {L : List Res} (_ : St Z w0 w L) (e : Exp) (kv : Value) (_ : rExp.sl Z w0 kv e.kids), Calls Try.prog 68 #[(.agg #[(.int .i8 (e.op)), (.string e.term.var), (.int .i8 (e.term.val.kind)), (.int .i64 (e.term.val.num)), (.string e.term.val.text), kv]), (.int .i64 ((n : Nat) : Int))] w (Ret fun r w' => r = .bool (deepB (n) e) ∧ St Z w0 w' L)) {Z : Nat → Prop} {w0 w : World} {L : List Res} (st : St Z w0 w L) (e : Exp) (kv : Value) (hk : rExp.sl Z w0 kv e.kids) : Calls Try.prog 68 #[(.agg #[(.int .i8 (e.op)), (.string e.term.var), (.int .i8 (e.term.val.kind)), (.int .i64 (e.term.val.num)), (.string e.term.val.text), kv]), (ni (n + 1))] w (Ret fun r w' => r = .bool (deepB (n + 1) e) ∧ St Z w0 w' L) := by
 have hne : ¬ ((n + 1 : Nat) : Int) = 0 := by omega
 have hkl := Rl.sl_le hk
 refine calls_of_WC (m := 37) (rs := [.tmp 4]) Try.func68 rfl rfl rfl rfl ?_
 refine Wsr ?_
 refine W1 (OpT.box st (.agg #[(.int .i8 (e.op)), (.string e.term.var), (.int .i8 (e.term.val.kind)), (.int .i64 (e.term.val.num)), (.string e.term.val.text), kv]) [(.int .i8 (e.op)), (.string e.term.var), (.int .i8 (e.term.val.kind)), (.int .i64 (e.term.val.num)), (.string e.term.val.text), kv] rfl rfl (fun b1 w2 st3 => ?_))
 refine W1 (OpT.box st3 (ni (n + 1)) [(ni (n + 1))] rfl rfl (fun b4 w5 st6 => ?_))
 refine W1 (OpT.assign (.bool false) rfl ?_)
 refine Wnt ?_
 refine WC.seq ?_
 refine Wsr ?_
 refine W1 (OpT.loadS ⟨b4, 0, none⟩ (ni (n + 1)) ta3 rfl (st6.cellB (i := 0) rfl rfl) ?_)
 refine W1 (OpT.ieq .i64 (((n + 1 : Nat) : Int)) (0) rfl rfl ?_)
 refine Wnt ?_
 refine WC.condF (bF hne) ?_
 refine WC.skip ?_
 refine thenQ_n ?_
 refine WC.seq ?_
 refine Wsr ?_
 refine W1 (OpT.field 0 ⟨b1, 0, none⟩ ⟨b1, 0, none⟩ tf59_0 rfl rfl ?_)
 refine W1 (OpT.loadS ⟨b1, 0, none⟩ (.int .i8 (e.op)) ta56 rfl (st6.cellB (i := 1) rfl rfl) ?_)
 refine W1 (OpT.ieq .i8 (e.op) (0) rfl rfl ?_)
 refine Wnt ?_
 refine WC.condP (e.op = 0) rfl (fun h7 => ?_) (fun h7 => ?_)
 ·refine WC.seq ?_
  refine WC.region ?_
  refine W1 (OpT.field 5 ⟨b1, 0, none⟩ ⟨b1, 5, none⟩ tf59_2 rfl rfl ?_)
  refine W1 (OpT.loadS ⟨b1, 5, none⟩ kv ta57 rfl (st6.cellB (i := 1) rfl rfl) ?_)
  refine W1 (OpT.lenR rfl tu57 hk rfl ?_)
  refine W1 (OpT.ieq .i64 (((e.kids.length : Nat) : Int)) (0) rfl rfl ?_)
  refine W1 (OpT.move (.bool (decide (((e.kids.length : Nat) : Int) = 0))) rfl ?_)
  by_cases h8 : ((e.kids.length : Nat) : Int) = 0
  ·refine W2 (dj := 14) (bT h8) (OpT.field 1 ⟨b1, 0, none⟩ ⟨b1, 1, none⟩ tf59_1 rfl rfl ?_)
   refine W2 (dj := 14) (bT h8) (OpT.loadA ⟨b1, 1, none⟩ 4 [(.string e.term.var), (.int .i8 (e.term.val.kind)), (.int .i64 (e.term.val.num)), (.string e.term.val.text)] ta38 ts38 rfl ((st6.rowB (i := 1) rfl).part 1 4) rfl ?_)
   refine W2 (dj := 14) (bT h8) (OpT.callS cal56 [] [] [(.agg #[(.string e.term.var), (.int .i8 (e.term.val.kind)), (.int .i64 (e.term.val.num)), (.string e.term.val.text)])] rfl (ca1 rfl) (solid_spec st6 e.term) ?_)
   rintro v9 w10 ⟨rfl, st11⟩
   refine W1 (OpT.pickT (.bool (solidB e.term)) (bT h8) rfl ?_)
   refine W1 (OpT.assign (.bool (solidB e.term)) rfl ?_)
   refine Wnt ?_
   refine WC.ret <| thenQ_r <| retQ.one (.bool (solidB e.term)) rfl ?_
   exact ⟨_, rfl, by simp only [deepB]; simp_all, (St.selT [Blk b4 3 [(ni (n + 1))], Blk b1 59 [(.int .i8 (e.op)), (.string e.term.var), (.int .i8 (e.term.val.kind)), (.int .i64 (e.term.val.num)), (.string e.term.val.text), kv]] [] rfl (by decide) st11)⟩
  refine WL.pass (dj := 14) (c := false) rfl rfl rfl (bF h8) rfl ?_
  refine WL.pass (dj := 14) (c := false) rfl rfl rfl (bF h8) rfl ?_
  refine WL.pass (dj := 14) (c := false) rfl rfl rfl (bF h8) rfl ?_
  refine W1 (OpT.pickF (.bool false) (bF h8) rfl ?_)
  refine W1 (OpT.assign (.bool false) rfl ?_)
  refine Wnt ?_
  refine WC.ret <| thenQ_r <| retQ.one (.bool false) rfl ?_
  exact ⟨_, rfl, by simp only [deepB]; simp_all, (St.selT [Blk b4 3 [(ni (n + 1))], Blk b1 59 [(.int .i8 (e.op)), (.string e.term.var), (.int .i8 (e.term.val.kind)), (.int .i64 (e.term.val.num)), (.string e.term.val.text), kv]] [] rfl (by decide) st6)⟩
 refine WC.skip ?_
 refine thenQ_n ?_
 refine WC.seq ?_
 refine WC.seq ?_
 by_cases h12 : ¬ (e.term = zTrm)
 ·refine WC.draw 13 (fun jj vv => match jj with | 0 => vv = (pt b1 1) | 1 => vv = (.agg #[(.string e.term.var), (.int .i8 (e.term.val.kind)), (.int .i64 (e.term.val.num)), (.string e.term.val.text)]) | 2 => vv = (.bool (decide (e.term = zTrm))) | 3 => vv = (.bool (decide (¬ (e.term = zTrm)))) | 4 => vv = (.bool (decide (¬ (e.term = zTrm)))) | 5 => vv = undef | 6 => vv = undef | 7 => vv = undef | 8 => vv = undef | 9 => vv = undef | 10 => vv = undef | 11 => vv = undef | 12 => vv = (.bool true) | _ => True) (fun _ _ => []) st6 fmix (by kernel_rfl) ((obS (obS (obS (obS (obS (obS (obS (obS (obS (obS (obS (obS (obS ob0 ?_) ?_) ?_) ?_) ?_) ?_) ?_) ?_) ?_) ?_) ?_) ?_) ?_)) ?_
  ·intro vals ρ w14 X hd h0 st13
   have e15 : ρ 2 = (pt b1 0) := (h0 2 rfl).trans rfl
   refine W1 (OpT.field 1 ⟨b1, 0, none⟩ ⟨b1, 1, none⟩ tf59_1 e15 rfl ?_)
   refine WL.nil ?_
   exact oneQ.mk ⟨rfl, st13⟩
  ·intro vals ρ w17 X hd h0 st16
   have e18 : ρ 19 = (pt b1 1) := ((hd 0 rfl).2 19 rfl).trans (hd 0 rfl).1
   refine W1 (OpT.loadA ⟨b1, 1, none⟩ 4 [(.string e.term.var), (.int .i8 (e.term.val.kind)), (.int .i64 (e.term.val.num)), (.string e.term.val.text)] ta38 ts38 e18 ((st16.rowB (i := 1) rfl).part 1 4) rfl ?_)
   refine WL.nil ?_
   exact oneQ.mk ⟨rfl, st16⟩
  ·intro vals ρ w20 X hd h0 st19
   have e21 : ρ 20 = (.agg #[(.string e.term.var), (.int .i8 (e.term.val.kind)), (.int .i64 (e.term.val.num)), (.string e.term.val.text)]) := ((hd 1 rfl).2 20 rfl).trans (hd 1 rfl).1
   refine W1 (OpT.callS cal57 [] [] [(.agg #[(.string e.term.var), (.int .i8 (e.term.val.kind)), (.int .i64 (e.term.val.num)), (.string e.term.val.text)])] rfl (ca1 e21) (none_spec st19 e.term) ?_)
   rintro v22 w23 ⟨rfl, st24⟩
   refine WL.nil ?_
   exact oneQ.mk ⟨rfl, st24⟩
  ·intro vals ρ w26 X hd h0 st25
   have e27 : ρ 21 = (.bool (decide (e.term = zTrm))) := ((hd 2 rfl).2 21 rfl).trans (hd 2 rfl).1
   refine W1 (OpT.notP (e.term = zTrm) e27 ?_)
   refine WL.nil ?_
   exact oneQ.mk ⟨rfl, st25⟩
  ·intro vals ρ w29 X hd h0 st28
   have e30 : ρ 22 = (.bool (decide (¬ (e.term = zTrm)))) := ((hd 3 rfl).2 22 rfl).trans (hd 3 rfl).1
   refine W1 (OpT.move (.bool (decide (¬ (e.term = zTrm)))) e30 ?_)
   refine WL.nil ?_
   exact oneQ.mk ⟨rfl, st28⟩
  ·intro vals ρ w32 X hd h0 st31
   have e33 : ρ 2 = (pt b1 0) := (h0 2 rfl).trans rfl
   have e34 : ρ 23 = (.bool (decide (¬ (e.term = zTrm)))) := ((hd 4 rfl).2 23 rfl).trans (hd 4 rfl).1
   refine WL.pass (dj := 23) (c := true) rfl rfl rfl (e34.trans (bT h12)) rfl ?_
   refine WL.nil ?_
   exact oneQ.mk ⟨rfl, st31⟩
  ·intro vals ρ w36 X hd h0 st35
   have e37 : ρ 23 = (.bool (decide (¬ (e.term = zTrm)))) := ((hd 4 rfl).2 23 rfl).trans (hd 4 rfl).1
   have e38 : ρ 24 = undef := ((hd 5 rfl).2 24 rfl).trans (hd 5 rfl).1
   refine WL.pass (dj := 23) (c := true) rfl rfl rfl (e37.trans (bT h12)) rfl ?_
   refine WL.nil ?_
   exact oneQ.mk ⟨rfl, st35⟩
  ·intro vals ρ w40 X hd h0 st39
   have e41 : ρ 23 = (.bool (decide (¬ (e.term = zTrm)))) := ((hd 4 rfl).2 23 rfl).trans (hd 4 rfl).1
   have e42 : ρ 25 = undef := ((hd 6 rfl).2 25 rfl).trans (hd 6 rfl).1
   refine WL.pass (dj := 23) (c := true) rfl rfl rfl (e41.trans (bT h12)) rfl ?_
   refine WL.nil ?_
   exact oneQ.mk ⟨rfl, st39⟩
  ·intro vals ρ w44 X hd h0 st43
   have e45 : ρ 2 = (pt b1 0) := (h0 2 rfl).trans rfl
   have e46 : ρ 23 = (.bool (decide (¬ (e.term = zTrm)))) := ((hd 4 rfl).2 23 rfl).trans (hd 4 rfl).1
   refine WL.pass (dj := 23) (c := true) rfl rfl rfl (e46.trans (bT h12)) rfl ?_
   refine WL.nil ?_
   exact oneQ.mk ⟨rfl, st43⟩
  ·intro vals ρ w48 X hd h0 st47
   have e49 : ρ 23 = (.bool (decide (¬ (e.term = zTrm)))) := ((hd 4 rfl).2 23 rfl).trans (hd 4 rfl).1
   have e50 : ρ 27 = undef := ((hd 8 rfl).2 27 rfl).trans (hd 8 rfl).1
   refine WL.pass (dj := 23) (c := true) rfl rfl rfl (e49.trans (bT h12)) rfl ?_
   refine WL.nil ?_
   exact oneQ.mk ⟨rfl, st47⟩
  ·intro vals ρ w52 X hd h0 st51
   have e53 : ρ 23 = (.bool (decide (¬ (e.term = zTrm)))) := ((hd 4 rfl).2 23 rfl).trans (hd 4 rfl).1
   have e54 : ρ 28 = undef := ((hd 9 rfl).2 28 rfl).trans (hd 9 rfl).1
   refine WL.pass (dj := 23) (c := true) rfl rfl rfl (e53.trans (bT h12)) rfl ?_
   refine WL.nil ?_
   exact oneQ.mk ⟨rfl, st51⟩
  ·intro vals ρ w56 X hd h0 st55
   have e57 : ρ 23 = (.bool (decide (¬ (e.term = zTrm)))) := ((hd 4 rfl).2 23 rfl).trans (hd 4 rfl).1
   have e58 : ρ 26 = undef := ((hd 7 rfl).2 26 rfl).trans (hd 7 rfl).1
   have e59 : ρ 29 = undef := ((hd 10 rfl).2 29 rfl).trans (hd 10 rfl).1
   refine WL.pass (dj := 23) (c := true) rfl rfl rfl (e57.trans (bT h12)) rfl ?_
   refine WL.nil ?_
   exact oneQ.mk ⟨rfl, st55⟩
  ·intro vals ρ w61 X hd h0 st60
   have e62 : ρ 23 = (.bool (decide (¬ (e.term = zTrm)))) := ((hd 4 rfl).2 23 rfl).trans (hd 4 rfl).1
   have e63 : ρ 30 = undef := ((hd 11 rfl).2 30 rfl).trans (hd 11 rfl).1
   refine W1 (OpT.pickT (.bool true) (e62.trans (bT h12)) rfl ?_)
   refine WL.nil ?_
   exact oneQ.mk ⟨rfl, st60⟩
  intro vals ρ66 w65 hv h0 st64
  replace st64 : St Z w0 w65 (Blk b4 3 [(ni (n + 1))] :: Blk b1 59 [(.int .i8 (e.op)), (.string e.term.var), (.int .i8 (e.term.val.kind)), (.int .i64 (e.term.val.num)), (.string e.term.val.text), kv] :: L) := st64
  have e67 : ρ66 2 = (pt b1 0) := (h0 2 rfl).trans rfl
  have e68 : ρ66 3 = (pt b4 0) := (h0 3 rfl).trans rfl
  have e69 : ρ66 31 = (.bool true) := ((hv 12 rfl).2 31 rfl).trans (hv 12 rfl).1
  clear hv h0
  refine Wnt ?_
  refine WC.condT e69 ?_
  refine Wsr ?_
  refine W1 (OpT.assign (.bool false) rfl ?_)
  refine Wnt ?_
  refine WC.ret <| thenQ_r <| retQ.one (.bool false) rfl ?_
  exact ⟨_, rfl, by simp only [deepB]; simp_all, (St.selT [Blk b4 3 [(ni (n + 1))], Blk b1 59 [(.int .i8 (e.op)), (.string e.term.var), (.int .i8 (e.term.val.kind)), (.int .i64 (e.term.val.num)), (.string e.term.val.text), kv]] [] rfl (by decide) st64)⟩
 refine WC.draw 13 (fun jj vv => match jj with | 0 => vv = (pt b1 1) | 1 => vv = (.agg #[(.string e.term.var), (.int .i8 (e.term.val.kind)), (.int .i64 (e.term.val.num)), (.string e.term.val.text)]) | 2 => vv = (.bool (decide (e.term = zTrm))) | 3 => vv = (.bool (decide (¬ (e.term = zTrm)))) | 4 => vv = (.bool (decide (¬ (e.term = zTrm)))) | 5 => vv = (pt b1 5) | 6 => vv = kv | 7 => vv = (ni (e.kids.length)) | 8 => vv = (pt b1 0) | 9 => vv = (.int .i8 (e.op)) | 10 => vv = (.int .i64 (arityF e.op)) | 11 => vv = (.bool (decide (((e.kids.length : Nat) : Int) ≠ (arityF e.op)))) | 12 => vv = (.bool (decide (((e.kids.length : Nat) : Int) ≠ (arityF e.op)))) | _ => True) (fun _ _ => []) st6 fmix (by kernel_rfl) ((obS (obS (obS (obS (obS (obS (obS (obS (obS (obS (obS (obS (obS ob0 ?_) ?_) ?_) ?_) ?_) ?_) ?_) ?_) ?_) ?_) ?_) ?_) ?_)) ?_
 ·intro vals ρ w71 X hd h0 st70
  have e72 : ρ 2 = (pt b1 0) := (h0 2 rfl).trans rfl
  refine W1 (OpT.field 1 ⟨b1, 0, none⟩ ⟨b1, 1, none⟩ tf59_1 e72 rfl ?_)
  refine WL.nil ?_
  exact oneQ.mk ⟨rfl, st70⟩
 ·intro vals ρ w74 X hd h0 st73
  have e75 : ρ 19 = (pt b1 1) := ((hd 0 rfl).2 19 rfl).trans (hd 0 rfl).1
  refine W1 (OpT.loadA ⟨b1, 1, none⟩ 4 [(.string e.term.var), (.int .i8 (e.term.val.kind)), (.int .i64 (e.term.val.num)), (.string e.term.val.text)] ta38 ts38 e75 ((st73.rowB (i := 1) rfl).part 1 4) rfl ?_)
  refine WL.nil ?_
  exact oneQ.mk ⟨rfl, st73⟩
 ·intro vals ρ w77 X hd h0 st76
  have e78 : ρ 20 = (.agg #[(.string e.term.var), (.int .i8 (e.term.val.kind)), (.int .i64 (e.term.val.num)), (.string e.term.val.text)]) := ((hd 1 rfl).2 20 rfl).trans (hd 1 rfl).1
  refine W1 (OpT.callS cal57 [] [] [(.agg #[(.string e.term.var), (.int .i8 (e.term.val.kind)), (.int .i64 (e.term.val.num)), (.string e.term.val.text)])] rfl (ca1 e78) (none_spec st76 e.term) ?_)
  rintro v79 w80 ⟨rfl, st81⟩
  refine WL.nil ?_
  exact oneQ.mk ⟨rfl, st81⟩
 ·intro vals ρ w83 X hd h0 st82
  have e84 : ρ 21 = (.bool (decide (e.term = zTrm))) := ((hd 2 rfl).2 21 rfl).trans (hd 2 rfl).1
  refine W1 (OpT.notP (e.term = zTrm) e84 ?_)
  refine WL.nil ?_
  exact oneQ.mk ⟨rfl, st82⟩
 ·intro vals ρ w86 X hd h0 st85
  have e87 : ρ 22 = (.bool (decide (¬ (e.term = zTrm)))) := ((hd 3 rfl).2 22 rfl).trans (hd 3 rfl).1
  refine W1 (OpT.move (.bool (decide (¬ (e.term = zTrm)))) e87 ?_)
  refine WL.nil ?_
  exact oneQ.mk ⟨rfl, st85⟩
 ·intro vals ρ w89 X hd h0 st88
  have e90 : ρ 2 = (pt b1 0) := (h0 2 rfl).trans rfl
  have e91 : ρ 23 = (.bool (decide (¬ (e.term = zTrm)))) := ((hd 4 rfl).2 23 rfl).trans (hd 4 rfl).1
  refine W2 (dj := 23) (e91.trans (bF h12)) (OpT.field 5 ⟨b1, 0, none⟩ ⟨b1, 5, none⟩ tf59_2 e90 rfl ?_)
  refine WL.nil ?_
  exact oneQ.mk ⟨rfl, st88⟩
 ·intro vals ρ w93 X hd h0 st92
  have e94 : ρ 23 = (.bool (decide (¬ (e.term = zTrm)))) := ((hd 4 rfl).2 23 rfl).trans (hd 4 rfl).1
  have e95 : ρ 24 = (pt b1 5) := ((hd 5 rfl).2 24 rfl).trans (hd 5 rfl).1
  refine W2 (dj := 23) (e94.trans (bF h12)) (OpT.loadS ⟨b1, 5, none⟩ kv ta57 e95 (st92.cellB (i := 1) rfl rfl) ?_)
  refine WL.nil ?_
  exact oneQ.mk ⟨rfl, st92⟩
 ·intro vals ρ w97 X hd h0 st96
  have e98 : ρ 23 = (.bool (decide (¬ (e.term = zTrm)))) := ((hd 4 rfl).2 23 rfl).trans (hd 4 rfl).1
  have e99 : ρ 25 = kv := ((hd 6 rfl).2 25 rfl).trans (hd 6 rfl).1
  refine W2 (dj := 23) (e98.trans (bF h12)) (OpT.lenR rfl tu57 hk e99 ?_)
  refine WL.nil ?_
  exact oneQ.mk ⟨rfl, st96⟩
 ·intro vals ρ w101 X hd h0 st100
  have e102 : ρ 2 = (pt b1 0) := (h0 2 rfl).trans rfl
  have e103 : ρ 23 = (.bool (decide (¬ (e.term = zTrm)))) := ((hd 4 rfl).2 23 rfl).trans (hd 4 rfl).1
  refine W2 (dj := 23) (e103.trans (bF h12)) (OpT.field 0 ⟨b1, 0, none⟩ ⟨b1, 0, none⟩ tf59_0 e102 rfl ?_)
  refine WL.nil ?_
  exact oneQ.mk ⟨rfl, st100⟩
 ·intro vals ρ w105 X hd h0 st104
  have e106 : ρ 23 = (.bool (decide (¬ (e.term = zTrm)))) := ((hd 4 rfl).2 23 rfl).trans (hd 4 rfl).1
  have e107 : ρ 27 = (pt b1 0) := ((hd 8 rfl).2 27 rfl).trans (hd 8 rfl).1
  refine W2 (dj := 23) (e106.trans (bF h12)) (OpT.loadS ⟨b1, 0, none⟩ (.int .i8 (e.op)) ta56 e107 (st104.cellB (i := 1) rfl rfl) ?_)
  refine WL.nil ?_
  exact oneQ.mk ⟨rfl, st104⟩
 ·intro vals ρ w109 X hd h0 st108
  have e110 : ρ 23 = (.bool (decide (¬ (e.term = zTrm)))) := ((hd 4 rfl).2 23 rfl).trans (hd 4 rfl).1
  have e111 : ρ 28 = (.int .i8 (e.op)) := ((hd 9 rfl).2 28 rfl).trans (hd 9 rfl).1
  refine W2 (dj := 23) (e110.trans (bF h12)) (OpT.callS cal74 [] [] [(.int .i8 (e.op))] rfl (ca1 e111) (arity_spec st108 e.op) ?_)
  rintro v112 w113 ⟨rfl, st114⟩
  refine WL.nil ?_
  exact oneQ.mk ⟨rfl, st114⟩
 ·intro vals ρ w116 X hd h0 st115
  have e117 : ρ 23 = (.bool (decide (¬ (e.term = zTrm)))) := ((hd 4 rfl).2 23 rfl).trans (hd 4 rfl).1
  have e118 : ρ 26 = (ni (e.kids.length)) := ((hd 7 rfl).2 26 rfl).trans (hd 7 rfl).1
  have e119 : ρ 29 = (.int .i64 (arityF e.op)) := ((hd 10 rfl).2 29 rfl).trans (hd 10 rfl).1
  refine W2 (dj := 23) (e117.trans (bF h12)) (OpT.ine .i64 (((e.kids.length : Nat) : Int)) (arityF e.op) e118 e119 ?_)
  refine WL.nil ?_
  exact oneQ.mk ⟨rfl, st115⟩
 ·intro vals ρ w121 X hd h0 st120
  have e122 : ρ 23 = (.bool (decide (¬ (e.term = zTrm)))) := ((hd 4 rfl).2 23 rfl).trans (hd 4 rfl).1
  have e123 : ρ 30 = (.bool (decide (((e.kids.length : Nat) : Int) ≠ (arityF e.op)))) := ((hd 11 rfl).2 30 rfl).trans (hd 11 rfl).1
  refine W1 (OpT.pickF (.bool (decide (((e.kids.length : Nat) : Int) ≠ (arityF e.op)))) (e122.trans (bF h12)) e123 ?_)
  refine WL.nil ?_
  exact oneQ.mk ⟨rfl, st120⟩
 intro vals ρ126 w125 hv h0 st124
 replace st124 : St Z w0 w125 (Blk b4 3 [(ni (n + 1))] :: Blk b1 59 [(.int .i8 (e.op)), (.string e.term.var), (.int .i8 (e.term.val.kind)), (.int .i64 (e.term.val.num)), (.string e.term.val.text), kv] :: L) := st124
 have e127 : ρ126 2 = (pt b1 0) := (h0 2 rfl).trans rfl
 have e128 : ρ126 3 = (pt b4 0) := (h0 3 rfl).trans rfl
 have e129 : ρ126 31 = (.bool (decide (((e.kids.length : Nat) : Int) ≠ (arityF e.op)))) := ((hv 12 rfl).2 31 rfl).trans (hv 12 rfl).1
 clear hv h0
 refine Wnt ?_
 refine WC.condP (((e.kids.length : Nat) : Int) ≠ (arityF e.op)) e129 (fun h130 => ?_) (fun h130 => ?_)
 ·refine WC.seq ?_
  refine WC.region ?_
  refine W1 (OpT.assign (.bool false) rfl ?_)
  refine Wnt ?_
  refine WC.ret <| thenQ_r <| retQ.one (.bool false) rfl ?_
  exact ⟨_, rfl, by simp only [deepB]; simp_all, (St.selT [Blk b4 3 [(ni (n + 1))], Blk b1 59 [(.int .i8 (e.op)), (.string e.term.var), (.int .i8 (e.term.val.kind)), (.int .i64 (e.term.val.num)), (.string e.term.val.text), kv]] [] rfl (by decide) st124)⟩
 refine WC.skip ?_
 refine thenQ_n ?_
 refine Wsr ?_
 refine W1 (OpT.field 5 ⟨b1, 0, none⟩ ⟨b1, 5, none⟩ tf59_2 e127 rfl ?_)
 refine W1 (OpT.loadS ⟨b1, 5, none⟩ kv ta57 rfl (st124.cellB (i := 1) rfl rfl) ?_)
 refine W1 (OpT.makeFunc [] [(pt b4 0)] mk0 (mk1 e128) ?_)
 refine W1 (OpT.callS cal75 [] [] [kv, (.func (.func 76) #[] #[(pt b4 0)])] rfl (ca2 rfl rfl) (ContainsFunc_Exp st124 hk 76 cal76 [(pt b4 0)] (fun k => !deepB n k) (fun w' cs x hx st' hR => by obtain ⟨kv', rfl, hk'⟩ := rExp_kids hR; exact deep1_spec n hn ih _ st' x kv' hk')) ?_)
 rintro v131 w132 ⟨rfl, st133⟩
 refine W1 (OpT.not (e.kids.any (fun k => !deepB n k)) rfl ?_)
 refine W1 (OpT.assign (.bool (!(e.kids.any (fun k => !deepB n k)))) rfl ?_)
 refine Wnt ?_
 refine WC.ret <| retQ.one (.bool (!(e.kids.any (fun k => !deepB n k)))) rfl ?_
 exact ⟨_, rfl, by simp only [deepB]; simp_all, (St.selT [Blk b4 3 [(ni (n + 1))], Blk b1 59 [(.int .i8 (e.op)), (.string e.term.var), (.int .i8 (e.term.val.kind)), (.int .i64 (e.term.val.num)), (.string e.term.val.text), kv]] [] rfl (by decide) st133)⟩

theorem deep_spec : ∀ (n : Nat), n < 1000 → ∀ {Z : Nat → Prop} {w0 w : World} {L : List Res} (_ : St Z w0 w L) (e : Exp) (kv : Value) (_ : rExp.sl Z w0 kv e.kids), Calls Try.prog 68 #[(.agg #[(.int .i8 (e.op)), (.string e.term.var), (.int .i8 (e.term.val.kind)), (.int .i64 (e.term.val.num)), (.string e.term.val.text), kv]), (.int .i64 ((n : Nat) : Int))] w (Ret fun r w' => r = .bool (deepB (n) e) ∧ St Z w0 w' L) := by
  intro n
  induction n with
  | zero => intro _ Z w0 w L st e kv hk; exact deep_zero st e kv hk
  | succ n ih => intro hn Z w0 w L st e kv hk; exact deep_succ n (by omega) (ih (by omega)) st e kv hk
theorem CheckExpr_spec {Z : Nat → Prop} {w0 w : World} {L : List Res} (st : St Z w0 w L) (e : Exp) (kv : Value) (hk : rExp.sl Z w0 kv e.kids) : Calls Try.prog 60 #[(.agg #[(.int .i8 (e.op)), (.string e.term.var), (.int .i8 (e.term.val.kind)), (.int .i64 (e.term.val.num)), (.string e.term.val.text), kv])] w (Ret fun r w' => r = .int .i64 (errn (deepB 8 e) 40) ∧ St Z w0 w' L) := by
 refine calls_of_WC (m := 6) (rs := [.tmp 2]) Try.func60 rfl rfl rfl rfl ?_
 refine Wsr ?_
 refine W1 (OpT.box st (.agg #[(.int .i8 (e.op)), (.string e.term.var), (.int .i8 (e.term.val.kind)), (.int .i64 (e.term.val.num)), (.string e.term.val.text), kv]) [(.int .i8 (e.op)), (.string e.term.var), (.int .i8 (e.term.val.kind)), (.int .i64 (e.term.val.num)), (.string e.term.val.text), kv] rfl rfl (fun b1 w2 st3 => ?_))
 refine W1 (OpT.assign (ii 0) rfl ?_)
 refine Wns ?_
 refine W1 (OpT.loadA ⟨b1, 0, none⟩ 6 [(.int .i8 (e.op)), (.string e.term.var), (.int .i8 (e.term.val.kind)), (.int .i64 (e.term.val.num)), (.string e.term.val.text), kv] ta59 ts59 rfl ((st3.rowB (i := 0) rfl).part 0 6) rfl ?_)
 refine W1 (OpT.callS cal68 [] [] [(.agg #[(.int .i8 (e.op)), (.string e.term.var), (.int .i8 (e.term.val.kind)), (.int .i64 (e.term.val.num)), (.string e.term.val.text), kv]), (ii 8)] rfl (ca2 rfl rfl) (deep_spec 8 (by omega) st3 e _ hk) ?_)
 rintro v4 w5 ⟨rfl, st6⟩
 refine W1 (OpT.callS cal45 [] [] [(.bool (deepB 8 e))] rfl (ca1 rfl) (code_spec st6 (deepB 8 e)) ?_)
 rintro v7 w8 ⟨rfl, st9⟩
 refine W1 (OpT.assign (.int .i64 (errn (deepB 8 e) 40)) rfl ?_)
 refine Wnt ?_
 refine WC.ret <| retQ.one (.int .i64 (errn (deepB 8 e) 40)) rfl ?_
 exact ⟨_, rfl, rfl, (St.selT [Blk b1 59 [(.int .i8 (e.op)), (.string e.term.var), (.int .i8 (e.term.val.kind)), (.int .i64 (e.term.val.num)), (.string e.term.val.text), kv]] [] rfl (by decide) st9)⟩

theorem CheckAtom1_spec {Z : Nat → Prop} {w0 w : World} {L : List Res} (st : St Z w0 w L) (t : Trm) : Calls Try.prog 67 #[(.agg #[(.string t.var), (.int .i8 (t.val.kind)), (.int .i64 (t.val.num)), (.string t.val.text)])] w (Ret fun r w' => r = .bool (!trmB t) ∧ St Z w0 w' L) := by
 refine calls_of_WC (m := 6) (rs := [.tmp 2]) Try.func67 rfl rfl rfl rfl ?_
 refine Wsr ?_
 refine W1 (OpT.box st (.agg #[(.string t.var), (.int .i8 (t.val.kind)), (.int .i64 (t.val.num)), (.string t.val.text)]) [(.string t.var), (.int .i8 (t.val.kind)), (.int .i64 (t.val.num)), (.string t.val.text)] rfl rfl (fun b1 w2 st3 => ?_))
 refine W1 (OpT.assign (.bool false) rfl ?_)
 refine Wns ?_
 refine W1 (OpT.loadA ⟨b1, 0, none⟩ 4 [(.string t.var), (.int .i8 (t.val.kind)), (.int .i64 (t.val.num)), (.string t.val.text)] ta38 ts38 rfl ((st3.rowB (i := 0) rfl).part 0 4) rfl ?_)
 refine W1 (OpT.callS cal65 [] [] [(.agg #[(.string t.var), (.int .i8 (t.val.kind)), (.int .i64 (t.val.num)), (.string t.val.text)])] rfl (ca1 rfl) (CheckTerm_spec st3 t) ?_)
 rintro v4 w5 ⟨rfl, st6⟩
 refine W1 (OpT.ine .i64 (errn (trmB t) 40) (0) rfl rfl ?_)
 refine W1 (OpT.assign (.bool (decide ((errn (trmB t) 40) ≠ 0))) rfl ?_)
 refine Wnt ?_
 refine WC.ret <| retQ.one (.bool (decide ((errn (trmB t) 40) ≠ 0))) rfl ?_
 exact ⟨_, rfl, by rw [show decide (errn (trmB t) 40 ≠ 0) = !trmB t from by cases trmB t <;> simp [errn]], (St.selT [Blk b1 38 [(.string t.var), (.int .i8 (t.val.kind)), (.int .i64 (t.val.num)), (.string t.val.text)]] [] rfl (by decide) st6)⟩

def atmB (a : Atm) : Bool := nameB a.pred && (decide ((a.args.length : Int) ≤ 24) && !a.args.any (fun t => !trmB t))
theorem CheckAtom_spec {Z : Nat → Prop} {w0 w : World} {L : List Res} (st : St Z w0 w L) (a : Atm) (av : Value) (ha : rTrm.sl Z w0 av a.args) : Calls Try.prog 59 #[(.agg #[(.string a.pred), av])] w (Ret fun r w' => r = .int .i64 (errn (atmB a) 40) ∧ St Z w0 w' L) := by
 refine calls_of_WC (m := 19) (rs := [.tmp 2]) Try.func59 rfl rfl rfl rfl ?_
 refine Wsr ?_
 refine W1 (OpT.box st (.agg #[(.string a.pred), av]) [(.string a.pred), av] rfl rfl (fun b1 w2 st3 => ?_))
 refine W1 (OpT.assign (ii 0) rfl ?_)
 refine Wns ?_
 refine W1 (OpT.field 0 ⟨b1, 0, none⟩ ⟨b1, 0, none⟩ tf54_0 rfl rfl ?_)
 refine W1 (OpT.loadS ⟨b1, 0, none⟩ (.string a.pred) ta9 rfl (st3.cellB (i := 0) rfl rfl) ?_)
 refine W1 (OpT.callS cal42 [] [] [(.string a.pred)] rfl (ca1 rfl) (name_spec st3 a.pred) ?_)
 rintro v4 w5 ⟨rfl, st6⟩
 refine W1 (OpT.move (.bool (nameB a.pred)) rfl ?_)
 by_cases h7 : (nameB a.pred) = true
 ·refine W2 (dj := 6) (congrArg Value.bool h7) (OpT.field 1 ⟨b1, 0, none⟩ ⟨b1, 1, none⟩ tf54_1 rfl rfl ?_)
  refine W2 (dj := 6) (congrArg Value.bool h7) (OpT.loadS ⟨b1, 1, none⟩ av ta52 rfl (st6.cellB (i := 0) rfl rfl) ?_)
  refine W2 (dj := 6) (congrArg Value.bool h7) (OpT.lenR rfl tu52 ha rfl ?_)
  refine W2 (dj := 6) (congrArg Value.bool h7) (OpT.ile .i64 (((a.args.length : Nat) : Int)) (24) rfl rfl ?_)
  refine W1 (OpT.pickT (.bool (decide (((a.args.length : Nat) : Int) ≤ 24))) (congrArg Value.bool h7) rfl ?_)
  refine W1 (OpT.move (.bool (decide (((a.args.length : Nat) : Int) ≤ 24))) rfl ?_)
  by_cases h8 : ((a.args.length : Nat) : Int) ≤ 24
  ·refine W2 (dj := 12) (bT h8) (OpT.field 1 ⟨b1, 0, none⟩ ⟨b1, 1, none⟩ tf54_1 rfl rfl ?_)
   refine W2 (dj := 12) (bT h8) (OpT.loadS ⟨b1, 1, none⟩ av ta52 rfl (st6.cellB (i := 0) rfl rfl) ?_)
   refine W2 (dj := 12) (bT h8) (OpT.callS cal66 [] [] [av, (.func (.func 67) #[] #[])] rfl (ca2 rfl rfl) (ContainsFunc_Trm st6 ha 67 cal67 [] (fun t => !trmB t) (fun w' cs x hx st' hR => by obtain rfl := hR; exact CheckAtom1_spec st' x)) ?_)
   rintro v9 w10 ⟨rfl, st11⟩
   refine W2 (dj := 12) (bT h8) (OpT.not (a.args.any (fun t => !trmB t)) rfl ?_)
   refine W1 (OpT.pickT (.bool (!(a.args.any (fun t => !trmB t)))) (bT h8) rfl ?_)
   refine W1 (OpT.callS cal45 [] [] [(.bool (!(a.args.any (fun t => !trmB t))))] rfl (ca1 rfl) (code_spec st11 (!(a.args.any (fun t => !trmB t)))) ?_)
   rintro v12 w13 ⟨rfl, st14⟩
   refine W1 (OpT.assign (.int .i64 (errn (!(a.args.any (fun t => !trmB t))) 40)) rfl ?_)
   refine Wnt ?_
   refine WC.ret <| retQ.one (.int .i64 (errn (!(a.args.any (fun t => !trmB t))) 40)) rfl ?_
   exact ⟨_, rfl, by simp [atmB, *], (St.selT [Blk b1 54 [(.string a.pred), av]] [] rfl (by decide) st14)⟩
  refine WL.pass (dj := 12) (c := false) rfl rfl rfl (bF h8) rfl ?_
  refine WL.pass (dj := 12) (c := false) rfl rfl rfl (bF h8) rfl ?_
  refine WL.pass (dj := 12) (c := false) rfl rfl rfl (bF h8) rfl ?_
  refine WL.pass (dj := 12) (c := false) rfl rfl rfl (bF h8) rfl ?_
  refine W1 (OpT.pickF (.bool false) (bF h8) rfl ?_)
  refine W1 (OpT.callS cal45 [] [] [(.bool false)] rfl (ca1 rfl) (code_spec st6 false) ?_)
  rintro v15 w16 ⟨rfl, st17⟩
  refine W1 (OpT.assign (.int .i64 (errn false 40)) rfl ?_)
  refine Wnt ?_
  refine WC.ret <| retQ.one (.int .i64 (errn false 40)) rfl ?_
  exact ⟨_, rfl, by simp [atmB, *], (St.selT [Blk b1 54 [(.string a.pred), av]] [] rfl (by decide) st17)⟩
 have h7 := Bool.eq_false_iff.2 h7
 refine WL.pass (dj := 6) (c := false) rfl rfl rfl (congrArg Value.bool h7) rfl ?_
 refine WL.pass (dj := 6) (c := false) rfl rfl rfl (congrArg Value.bool h7) rfl ?_
 refine WL.pass (dj := 6) (c := false) rfl rfl rfl (congrArg Value.bool h7) rfl ?_
 refine WL.pass (dj := 6) (c := false) rfl rfl rfl (congrArg Value.bool h7) rfl ?_
 refine W1 (OpT.pickF (.bool false) (congrArg Value.bool h7) rfl ?_)
 refine W1 (OpT.move (.bool false) rfl ?_)
 refine WL.pass (dj := 12) (c := false) rfl rfl rfl rfl rfl ?_
 refine WL.pass (dj := 12) (c := false) rfl rfl rfl rfl rfl ?_
 refine WL.pass (dj := 12) (c := false) rfl rfl rfl rfl rfl ?_
 refine WL.pass (dj := 12) (c := false) rfl rfl rfl rfl rfl ?_
 refine W1 (OpT.pickF (.bool false) rfl rfl ?_)
 refine W1 (OpT.callS cal45 [] [] [(.bool false)] rfl (ca1 rfl) (code_spec st6 false) ?_)
 rintro v18 w19 ⟨rfl, st20⟩
 refine W1 (OpT.assign (.int .i64 (errn false 40)) rfl ?_)
 refine Wnt ?_
 refine WC.ret <| retQ.one (.int .i64 (errn false 40)) rfl ?_
 exact ⟨_, rfl, by simp [atmB, *], (St.selT [Blk b1 54 [(.string a.pred), av]] [] rfl (by decide) st20)⟩

def agrB (a : Agr) : Bool := if a.agg = 0 then solidB a.term else if a.agg = 1 then decide (a.term = zTrm) else if a.agg = 2 ∨ a.agg = 3 ∨ a.agg = 4 then decide (a.term.var ≠ ⟨#[]⟩) && solidB a.term else false
def ltrlB (l : Ltr) : Bool := if l.kind = 1 ∨ l.kind = 2 then decide (l.rel = 0) && emptyB l.left && emptyB l.right && atmB l.atom
  else if l.kind = 3 then decide (l.atom.pred = ⟨#[]⟩) && decide (¬ 0 < (l.atom.args.length : Int)) && decide (¬ l.rel < 1) && decide (¬ 6 < l.rel) && deepB 8 l.left && deepB 8 l.right else false
theorem argument_spec {Z : Nat → Prop} {w0 w : World} {L : List Res} (st : St Z w0 w L) (a : Agr) : Calls Try.prog 43 #[(.agg #[(.int .i8 (a.agg)), (.string a.term.var), (.int .i8 (a.term.val.kind)), (.int .i64 (a.term.val.num)), (.string a.term.val.text)])] w (Ret fun r w' => r = .bool (agrB a) ∧ St Z w0 w' L) := by
 refine calls_of_WC (m := 28) (rs := [.tmp 2]) Try.func43 rfl rfl rfl rfl ?_
 refine Wsr ?_
 refine W1 (OpT.box st (.agg #[(.int .i8 (a.agg)), (.string a.term.var), (.int .i8 (a.term.val.kind)), (.int .i64 (a.term.val.num)), (.string a.term.val.text)]) [(.int .i8 (a.agg)), (.string a.term.var), (.int .i8 (a.term.val.kind)), (.int .i64 (a.term.val.num)), (.string a.term.val.text)] rfl rfl (fun b1 w2 st3 => ?_))
 refine W1 (OpT.assign (.bool false) rfl ?_)
 refine Wnt ?_
 refine WC.seq ?_
 refine Wsr ?_
 refine W1 (OpT.field 0 ⟨b1, 0, none⟩ ⟨b1, 0, none⟩ tf40_0 rfl rfl ?_)
 refine W1 (OpT.loadS ⟨b1, 0, none⟩ (.int .i8 (a.agg)) ta33 rfl (st3.cellB (i := 0) rfl rfl) ?_)
 refine Wnt ?_
 refine WC.block ?_
 refine Wsr ?_
 refine W1 (OpT.ieq .i8 (a.agg) (0) rfl rfl ?_)
 refine W1 (OpT.assign (.bool (decide (a.agg = 0))) rfl ?_)
 refine Wnt ?_
 refine WC.condP (a.agg = 0) rfl (fun h4 => ?_) (fun h4 => ?_)
 ·refine WC.seq ?_
  refine WC.region ?_
  refine W1 (OpT.field 1 ⟨b1, 0, none⟩ ⟨b1, 1, none⟩ tf40_1 rfl rfl ?_)
  refine W1 (OpT.loadA ⟨b1, 1, none⟩ 4 [(.string a.term.var), (.int .i8 (a.term.val.kind)), (.int .i64 (a.term.val.num)), (.string a.term.val.text)] ta38 ts38 rfl ((st3.rowB (i := 0) rfl).part 1 4) rfl ?_)
  refine W1 (OpT.callS cal56 [] [] [(.agg #[(.string a.term.var), (.int .i8 (a.term.val.kind)), (.int .i64 (a.term.val.num)), (.string a.term.val.text)])] rfl (ca1 rfl) (solid_spec st3 a.term) ?_)
  rintro v5 w6 ⟨rfl, st7⟩
  refine W1 (OpT.assign (.bool (solidB a.term)) rfl ?_)
  refine Wnt ?_
  refine WC.ret <| blkQ_r <| thenQ_r <| retQ.one (.bool (solidB a.term)) rfl ?_
  exact ⟨_, rfl, by simp [agrB, *], (St.selT [Blk b1 40 [(.int .i8 (a.agg)), (.string a.term.var), (.int .i8 (a.term.val.kind)), (.int .i64 (a.term.val.num)), (.string a.term.val.text)]] [] rfl (by decide) st7)⟩
 refine Wsr ?_
 refine W1 (OpT.ieq .i8 (a.agg) (1) rfl rfl ?_)
 refine W1 (OpT.assign (.bool (decide (a.agg = 1))) rfl ?_)
 refine Wnt ?_
 refine WC.condP (a.agg = 1) rfl (fun h8 => ?_) (fun h8 => ?_)
 ·refine WC.seq ?_
  refine WC.region ?_
  refine W1 (OpT.field 1 ⟨b1, 0, none⟩ ⟨b1, 1, none⟩ tf40_1 rfl rfl ?_)
  refine W1 (OpT.loadA ⟨b1, 1, none⟩ 4 [(.string a.term.var), (.int .i8 (a.term.val.kind)), (.int .i64 (a.term.val.num)), (.string a.term.val.text)] ta38 ts38 rfl ((st3.rowB (i := 0) rfl).part 1 4) rfl ?_)
  refine W1 (OpT.callS cal57 [] [] [(.agg #[(.string a.term.var), (.int .i8 (a.term.val.kind)), (.int .i64 (a.term.val.num)), (.string a.term.val.text)])] rfl (ca1 rfl) (none_spec st3 a.term) ?_)
  rintro v9 w10 ⟨rfl, st11⟩
  refine W1 (OpT.assign (.bool (decide (a.term = zTrm))) rfl ?_)
  refine Wnt ?_
  refine WC.ret <| blkQ_r <| thenQ_r <| retQ.one (.bool (decide (a.term = zTrm))) rfl ?_
  exact ⟨_, rfl, by simp [agrB, *], (St.selT [Blk b1 40 [(.int .i8 (a.agg)), (.string a.term.var), (.int .i8 (a.term.val.kind)), (.int .i64 (a.term.val.num)), (.string a.term.val.text)]] [] rfl (by decide) st11)⟩
 refine WC.seq ?_
 refine Wsr ?_
 refine W1 (OpT.ieq .i8 (a.agg) (2) rfl rfl ?_)
 refine W1 (OpT.assign (.bool (decide (a.agg = 2))) rfl ?_)
 refine Wnt ?_
 refine WC.condP (a.agg = 2) rfl (fun h12 => ?_) (fun h12 => ?_)
 ·refine WC.skip ?_
  refine thenQ_n ?_
  refine WC.condT (bT h12) ?_
  refine Wsr ?_
  refine W1 (OpT.field 1 ⟨b1, 0, none⟩ ⟨b1, 1, none⟩ tf40_1 rfl rfl ?_)
  refine W1 (OpT.field 0 ⟨b1, 1, none⟩ ⟨b1, 1, none⟩ tf38_0 rfl rfl ?_)
  refine W1 (OpT.loadS ⟨b1, 1, none⟩ (.string a.term.var) ta9 rfl (st3.cellB (i := 0) rfl rfl) ?_)
  refine W1 (OpT.sne (a.term.var) ((⟨#[]⟩ : ByteArray)) rfl rfl ?_)
  refine W1 (OpT.move (.bool (decide (a.term.var ≠ (⟨#[]⟩ : ByteArray)))) rfl ?_)
  by_cases h13 : a.term.var ≠ (⟨#[]⟩ : ByteArray)
  ·refine W2 (dj := 23) (bT h13) (OpT.field 1 ⟨b1, 0, none⟩ ⟨b1, 1, none⟩ tf40_1 rfl rfl ?_)
   refine W2 (dj := 23) (bT h13) (OpT.loadA ⟨b1, 1, none⟩ 4 [(.string a.term.var), (.int .i8 (a.term.val.kind)), (.int .i64 (a.term.val.num)), (.string a.term.val.text)] ta38 ts38 rfl ((st3.rowB (i := 0) rfl).part 1 4) rfl ?_)
   refine W2 (dj := 23) (bT h13) (OpT.callS cal56 [] [] [(.agg #[(.string a.term.var), (.int .i8 (a.term.val.kind)), (.int .i64 (a.term.val.num)), (.string a.term.val.text)])] rfl (ca1 rfl) (solid_spec st3 a.term) ?_)
   rintro v14 w15 ⟨rfl, st16⟩
   refine W1 (OpT.pickT (.bool (solidB a.term)) (bT h13) rfl ?_)
   refine W1 (OpT.assign (.bool (solidB a.term)) rfl ?_)
   refine Wnt ?_
   refine WC.ret <| blkQ_r <| thenQ_r <| retQ.one (.bool (solidB a.term)) rfl ?_
   exact ⟨_, rfl, by simp [agrB, *], (St.selT [Blk b1 40 [(.int .i8 (a.agg)), (.string a.term.var), (.int .i8 (a.term.val.kind)), (.int .i64 (a.term.val.num)), (.string a.term.val.text)]] [] rfl (by decide) st16)⟩
  refine WL.pass (dj := 23) (c := false) rfl rfl rfl (bF h13) rfl ?_
  refine WL.pass (dj := 23) (c := false) rfl rfl rfl (bF h13) rfl ?_
  refine WL.pass (dj := 23) (c := false) rfl rfl rfl (bF h13) rfl ?_
  refine W1 (OpT.pickF (.bool false) (bF h13) rfl ?_)
  refine W1 (OpT.assign (.bool false) rfl ?_)
  refine Wnt ?_
  refine WC.ret <| blkQ_r <| thenQ_r <| retQ.one (.bool false) rfl ?_
  exact ⟨_, rfl, by simp [agrB, *], (St.selT [Blk b1 40 [(.int .i8 (a.agg)), (.string a.term.var), (.int .i8 (a.term.val.kind)), (.int .i64 (a.term.val.num)), (.string a.term.val.text)]] [] rfl (by decide) st3)⟩
 refine Wsr ?_
 refine W1 (OpT.ieq .i8 (a.agg) (3) rfl rfl ?_)
 refine W1 (OpT.assign (.bool (decide (a.agg = 3))) rfl ?_)
 refine Wnt ?_
 refine WC.condP (a.agg = 3) rfl (fun h17 => ?_) (fun h17 => ?_)
 ·refine WC.skip ?_
  refine thenQ_n ?_
  refine WC.condT (bT h17) ?_
  refine Wsr ?_
  refine W1 (OpT.field 1 ⟨b1, 0, none⟩ ⟨b1, 1, none⟩ tf40_1 rfl rfl ?_)
  refine W1 (OpT.field 0 ⟨b1, 1, none⟩ ⟨b1, 1, none⟩ tf38_0 rfl rfl ?_)
  refine W1 (OpT.loadS ⟨b1, 1, none⟩ (.string a.term.var) ta9 rfl (st3.cellB (i := 0) rfl rfl) ?_)
  refine W1 (OpT.sne (a.term.var) ((⟨#[]⟩ : ByteArray)) rfl rfl ?_)
  refine W1 (OpT.move (.bool (decide (a.term.var ≠ (⟨#[]⟩ : ByteArray)))) rfl ?_)
  by_cases h18 : a.term.var ≠ (⟨#[]⟩ : ByteArray)
  ·refine W2 (dj := 23) (bT h18) (OpT.field 1 ⟨b1, 0, none⟩ ⟨b1, 1, none⟩ tf40_1 rfl rfl ?_)
   refine W2 (dj := 23) (bT h18) (OpT.loadA ⟨b1, 1, none⟩ 4 [(.string a.term.var), (.int .i8 (a.term.val.kind)), (.int .i64 (a.term.val.num)), (.string a.term.val.text)] ta38 ts38 rfl ((st3.rowB (i := 0) rfl).part 1 4) rfl ?_)
   refine W2 (dj := 23) (bT h18) (OpT.callS cal56 [] [] [(.agg #[(.string a.term.var), (.int .i8 (a.term.val.kind)), (.int .i64 (a.term.val.num)), (.string a.term.val.text)])] rfl (ca1 rfl) (solid_spec st3 a.term) ?_)
   rintro v19 w20 ⟨rfl, st21⟩
   refine W1 (OpT.pickT (.bool (solidB a.term)) (bT h18) rfl ?_)
   refine W1 (OpT.assign (.bool (solidB a.term)) rfl ?_)
   refine Wnt ?_
   refine WC.ret <| blkQ_r <| thenQ_r <| retQ.one (.bool (solidB a.term)) rfl ?_
   exact ⟨_, rfl, by simp [agrB, *], (St.selT [Blk b1 40 [(.int .i8 (a.agg)), (.string a.term.var), (.int .i8 (a.term.val.kind)), (.int .i64 (a.term.val.num)), (.string a.term.val.text)]] [] rfl (by decide) st21)⟩
  refine WL.pass (dj := 23) (c := false) rfl rfl rfl (bF h18) rfl ?_
  refine WL.pass (dj := 23) (c := false) rfl rfl rfl (bF h18) rfl ?_
  refine WL.pass (dj := 23) (c := false) rfl rfl rfl (bF h18) rfl ?_
  refine W1 (OpT.pickF (.bool false) (bF h18) rfl ?_)
  refine W1 (OpT.assign (.bool false) rfl ?_)
  refine Wnt ?_
  refine WC.ret <| blkQ_r <| thenQ_r <| retQ.one (.bool false) rfl ?_
  exact ⟨_, rfl, by simp [agrB, *], (St.selT [Blk b1 40 [(.int .i8 (a.agg)), (.string a.term.var), (.int .i8 (a.term.val.kind)), (.int .i64 (a.term.val.num)), (.string a.term.val.text)]] [] rfl (by decide) st3)⟩
 refine WC.region ?_
 refine W1 (OpT.ieq .i8 (a.agg) (4) rfl rfl ?_)
 refine W1 (OpT.assign (.bool (decide (a.agg = 4))) rfl ?_)
 refine Wnt ?_
 refine WC.condP (a.agg = 4) rfl (fun h22 => ?_) (fun h22 => ?_)
 ·refine WC.seq ?_
  refine WC.region ?_
  refine W1 (OpT.field 1 ⟨b1, 0, none⟩ ⟨b1, 1, none⟩ tf40_1 rfl rfl ?_)
  refine W1 (OpT.field 0 ⟨b1, 1, none⟩ ⟨b1, 1, none⟩ tf38_0 rfl rfl ?_)
  refine W1 (OpT.loadS ⟨b1, 1, none⟩ (.string a.term.var) ta9 rfl (st3.cellB (i := 0) rfl rfl) ?_)
  refine W1 (OpT.sne (a.term.var) ((⟨#[]⟩ : ByteArray)) rfl rfl ?_)
  refine W1 (OpT.move (.bool (decide (a.term.var ≠ (⟨#[]⟩ : ByteArray)))) rfl ?_)
  by_cases h23 : a.term.var ≠ (⟨#[]⟩ : ByteArray)
  ·refine W2 (dj := 23) (bT h23) (OpT.field 1 ⟨b1, 0, none⟩ ⟨b1, 1, none⟩ tf40_1 rfl rfl ?_)
   refine W2 (dj := 23) (bT h23) (OpT.loadA ⟨b1, 1, none⟩ 4 [(.string a.term.var), (.int .i8 (a.term.val.kind)), (.int .i64 (a.term.val.num)), (.string a.term.val.text)] ta38 ts38 rfl ((st3.rowB (i := 0) rfl).part 1 4) rfl ?_)
   refine W2 (dj := 23) (bT h23) (OpT.callS cal56 [] [] [(.agg #[(.string a.term.var), (.int .i8 (a.term.val.kind)), (.int .i64 (a.term.val.num)), (.string a.term.val.text)])] rfl (ca1 rfl) (solid_spec st3 a.term) ?_)
   rintro v24 w25 ⟨rfl, st26⟩
   refine W1 (OpT.pickT (.bool (solidB a.term)) (bT h23) rfl ?_)
   refine W1 (OpT.assign (.bool (solidB a.term)) rfl ?_)
   refine Wnt ?_
   refine WC.ret <| blkQ_r <| thenQ_r <| retQ.one (.bool (solidB a.term)) rfl ?_
   exact ⟨_, rfl, by simp [agrB, *], (St.selT [Blk b1 40 [(.int .i8 (a.agg)), (.string a.term.var), (.int .i8 (a.term.val.kind)), (.int .i64 (a.term.val.num)), (.string a.term.val.text)]] [] rfl (by decide) st26)⟩
  refine WL.pass (dj := 23) (c := false) rfl rfl rfl (bF h23) rfl ?_
  refine WL.pass (dj := 23) (c := false) rfl rfl rfl (bF h23) rfl ?_
  refine WL.pass (dj := 23) (c := false) rfl rfl rfl (bF h23) rfl ?_
  refine W1 (OpT.pickF (.bool false) (bF h23) rfl ?_)
  refine W1 (OpT.assign (.bool false) rfl ?_)
  refine Wnt ?_
  refine WC.ret <| blkQ_r <| thenQ_r <| retQ.one (.bool false) rfl ?_
  exact ⟨_, rfl, by simp [agrB, *], (St.selT [Blk b1 40 [(.int .i8 (a.agg)), (.string a.term.var), (.int .i8 (a.term.val.kind)), (.int .i64 (a.term.val.num)), (.string a.term.val.text)]] [] rfl (by decide) st3)⟩
 refine WC.skip ?_
 refine blkQ_n ?_
 refine thenQ_n ?_
 refine Wsr ?_
 refine W1 (OpT.assign (.bool false) rfl ?_)
 refine Wnt ?_
 refine WC.ret <| retQ.one (.bool false) rfl ?_
 exact ⟨_, rfl, by simp [agrB, *], (St.selT [Blk b1 40 [(.int .i8 (a.agg)), (.string a.term.var), (.int .i8 (a.term.val.kind)), (.int .i64 (a.term.val.num)), (.string a.term.val.text)]] [] rfl (by decide) st3)⟩

theorem errn_ne (b : Bool) (h : errn b 40 ≠ 0) : b = false := by cases b <;> simp [errn] at h ⊢
theorem errn_eq (b : Bool) (h : ¬ errn b 40 ≠ 0) : b = true := by cases b <;> simp [errn] at h ⊢
theorem CheckLiteral_spec {Z : Nat → Prop} {w0 w : World} {L : List Res} (st : St Z w0 w L) (l : Ltr) (av lk rk : Value) (ha : rTrm.sl Z w0 av l.atom.args) (hl : rExp.sl Z w0 lk l.left.kids) (hr : rExp.sl Z w0 rk l.right.kids) : Calls Try.prog 44 #[(.agg #[(.int .i8 (l.kind)), (.string l.atom.pred), av, (.int .i8 (l.rel)), (.int .i8 (l.left.op)), (.string l.left.term.var), (.int .i8 (l.left.term.val.kind)), (.int .i64 (l.left.term.val.num)), (.string l.left.term.val.text), lk, (.int .i8 (l.right.op)), (.string l.right.term.var), (.int .i8 (l.right.term.val.kind)), (.int .i64 (l.right.term.val.num)), (.string l.right.term.val.text), rk])] w (Ret fun r w' => r = .int .i64 (errn (ltrlB l) 40) ∧ St Z w0 w' L) := by
 refine calls_of_WC (m := 58) (rs := [.tmp 2]) Try.func44 rfl rfl rfl rfl ?_
 refine Wsr ?_
 refine W1 (OpT.box st (.agg #[(.int .i8 (l.kind)), (.string l.atom.pred), av, (.int .i8 (l.rel)), (.int .i8 (l.left.op)), (.string l.left.term.var), (.int .i8 (l.left.term.val.kind)), (.int .i64 (l.left.term.val.num)), (.string l.left.term.val.text), lk, (.int .i8 (l.right.op)), (.string l.right.term.var), (.int .i8 (l.right.term.val.kind)), (.int .i64 (l.right.term.val.num)), (.string l.right.term.val.text), rk]) [(.int .i8 (l.kind)), (.string l.atom.pred), av, (.int .i8 (l.rel)), (.int .i8 (l.left.op)), (.string l.left.term.var), (.int .i8 (l.left.term.val.kind)), (.int .i64 (l.left.term.val.num)), (.string l.left.term.val.text), lk, (.int .i8 (l.right.op)), (.string l.right.term.var), (.int .i8 (l.right.term.val.kind)), (.int .i64 (l.right.term.val.num)), (.string l.right.term.val.text), rk] rfl rfl (fun b1 w2 st3 => ?_))
 refine W1 (OpT.assign (ii 0) rfl ?_)
 refine Wnt ?_
 refine WC.seq ?_
 refine Wsr ?_
 refine W1 (OpT.field 0 ⟨b1, 0, none⟩ ⟨b1, 0, none⟩ tf61_0 rfl rfl ?_)
 refine W1 (OpT.loadS ⟨b1, 0, none⟩ (.int .i8 (l.kind)) ta51 rfl (st3.cellB (i := 0) rfl rfl) ?_)
 refine Wnt ?_
 refine WC.block ?_
 refine WC.seq ?_
 refine Wsr ?_
 refine W1 (OpT.ieq .i8 (l.kind) (1) rfl rfl ?_)
 refine W1 (OpT.assign (.bool (decide (l.kind = 1))) rfl ?_)
 refine Wnt ?_
 refine WC.condP (l.kind = 1) rfl (fun h4 => ?_) (fun h4 => ?_)
 ·refine WC.skip ?_
  refine thenQ_n ?_
  refine WC.condT (bT h4) ?_
  refine WC.seq ?_
  refine Wsr ?_
  refine W1 (OpT.field 3 ⟨b1, 0, none⟩ ⟨b1, 3, none⟩ tf61_2 rfl rfl ?_)
  refine W1 (OpT.loadS ⟨b1, 3, none⟩ (.int .i8 (l.rel)) ta55 rfl (st3.cellB (i := 0) rfl rfl) ?_)
  refine W1 (OpT.ine .i8 (l.rel) (0) rfl rfl ?_)
  refine W1 (OpT.move (.bool (decide (l.rel ≠ 0))) rfl ?_)
  by_cases h5 : l.rel ≠ 0
  ·refine WL.pass (dj := 11) (c := true) rfl rfl rfl (bT h5) rfl ?_
   refine WL.pass (dj := 11) (c := true) rfl rfl rfl (bT h5) rfl ?_
   refine WL.pass (dj := 11) (c := true) rfl rfl rfl (bT h5) rfl ?_
   refine WL.pass (dj := 11) (c := true) rfl rfl rfl (bT h5) rfl ?_
   refine W1 (OpT.pickT (.bool true) (bT h5) rfl ?_)
   refine W1 (OpT.move (.bool true) rfl ?_)
   refine WL.pass (dj := 17) (c := true) rfl rfl rfl rfl rfl ?_
   refine WL.pass (dj := 17) (c := true) rfl rfl rfl rfl rfl ?_
   refine WL.pass (dj := 17) (c := true) rfl rfl rfl rfl rfl ?_
   refine WL.pass (dj := 17) (c := true) rfl rfl rfl rfl rfl ?_
   refine W1 (OpT.pickT (.bool true) rfl rfl ?_)
   refine Wnt ?_
   refine WC.condT rfl ?_
   refine Wsr ?_
   refine W1 (OpT.assign (ii 40) rfl ?_)
   refine Wnt ?_
   refine WC.ret <| thenQ_r <| blkQ_r <| thenQ_r <| retQ.one (ii 40) rfl ?_
   exact ⟨_, rfl, by simp_all [ltrlB, errn], (St.selT [Blk b1 61 [(.int .i8 (l.kind)), (.string l.atom.pred), av, (.int .i8 (l.rel)), (.int .i8 (l.left.op)), (.string l.left.term.var), (.int .i8 (l.left.term.val.kind)), (.int .i64 (l.left.term.val.num)), (.string l.left.term.val.text), lk, (.int .i8 (l.right.op)), (.string l.right.term.var), (.int .i8 (l.right.term.val.kind)), (.int .i64 (l.right.term.val.num)), (.string l.right.term.val.text), rk]] [] rfl (by decide) st3)⟩
  refine W2 (dj := 11) (bF h5) (OpT.field 4 ⟨b1, 0, none⟩ ⟨b1, 4, none⟩ tf61_3 rfl rfl ?_)
  refine W2 (dj := 11) (bF h5) (OpT.loadA ⟨b1, 4, none⟩ 6 [(.int .i8 (l.left.op)), (.string l.left.term.var), (.int .i8 (l.left.term.val.kind)), (.int .i64 (l.left.term.val.num)), (.string l.left.term.val.text), lk] ta59 ts59 rfl ((st3.rowB (i := 0) rfl).part 4 6) rfl ?_)
  refine W2 (dj := 11) (bF h5) (OpT.callS cal58 [] [] [(.agg #[(.int .i8 (l.left.op)), (.string l.left.term.var), (.int .i8 (l.left.term.val.kind)), (.int .i64 (l.left.term.val.num)), (.string l.left.term.val.text), lk])] rfl (ca1 rfl) (empty_spec st3 l.left _ hl) ?_)
  rintro v6 w7 ⟨rfl, st8⟩
  refine W2 (dj := 11) (bF h5) (OpT.not (emptyB l.left) rfl ?_)
  refine W1 (OpT.pickF (.bool (!(emptyB l.left))) (bF h5) rfl ?_)
  refine W1 (OpT.move (.bool (!(emptyB l.left))) rfl ?_)
  by_cases h9 : (!(emptyB l.left)) = true
  ·refine WL.pass (dj := 17) (c := true) rfl rfl rfl (congrArg Value.bool h9) rfl ?_
   refine WL.pass (dj := 17) (c := true) rfl rfl rfl (congrArg Value.bool h9) rfl ?_
   refine WL.pass (dj := 17) (c := true) rfl rfl rfl (congrArg Value.bool h9) rfl ?_
   refine WL.pass (dj := 17) (c := true) rfl rfl rfl (congrArg Value.bool h9) rfl ?_
   refine W1 (OpT.pickT (.bool true) (congrArg Value.bool h9) rfl ?_)
   refine Wnt ?_
   refine WC.condT rfl ?_
   refine Wsr ?_
   refine W1 (OpT.assign (ii 40) rfl ?_)
   refine Wnt ?_
   refine WC.ret <| thenQ_r <| blkQ_r <| thenQ_r <| retQ.one (ii 40) rfl ?_
   exact ⟨_, rfl, by simp_all [ltrlB, errn], (St.selT [Blk b1 61 [(.int .i8 (l.kind)), (.string l.atom.pred), av, (.int .i8 (l.rel)), (.int .i8 (l.left.op)), (.string l.left.term.var), (.int .i8 (l.left.term.val.kind)), (.int .i64 (l.left.term.val.num)), (.string l.left.term.val.text), lk, (.int .i8 (l.right.op)), (.string l.right.term.var), (.int .i8 (l.right.term.val.kind)), (.int .i64 (l.right.term.val.num)), (.string l.right.term.val.text), rk]] [] rfl (by decide) st8)⟩
  have h9 := Bool.eq_false_iff.2 h9
  refine W2 (dj := 17) (congrArg Value.bool h9) (OpT.field 10 ⟨b1, 0, none⟩ ⟨b1, 10, none⟩ tf61_4 rfl rfl ?_)
  refine W2 (dj := 17) (congrArg Value.bool h9) (OpT.loadA ⟨b1, 10, none⟩ 6 [(.int .i8 (l.right.op)), (.string l.right.term.var), (.int .i8 (l.right.term.val.kind)), (.int .i64 (l.right.term.val.num)), (.string l.right.term.val.text), rk] ta59 ts59 rfl ((st8.rowB (i := 0) rfl).part 10 6) rfl ?_)
  refine W2 (dj := 17) (congrArg Value.bool h9) (OpT.callS cal58 [] [] [(.agg #[(.int .i8 (l.right.op)), (.string l.right.term.var), (.int .i8 (l.right.term.val.kind)), (.int .i64 (l.right.term.val.num)), (.string l.right.term.val.text), rk])] rfl (ca1 rfl) (empty_spec st8 l.right _ hr) ?_)
  rintro v10 w11 ⟨rfl, st12⟩
  refine W2 (dj := 17) (congrArg Value.bool h9) (OpT.not (emptyB l.right) rfl ?_)
  refine W1 (OpT.pickF (.bool (!(emptyB l.right))) (congrArg Value.bool h9) rfl ?_)
  refine Wnt ?_
  refine WC.cond ((!(emptyB l.right))) rfl (fun h13 => ?_) (fun h13 => ?_)
  ·refine WC.seq ?_
   refine WC.region ?_
   refine W1 (OpT.assign (ii 40) rfl ?_)
   refine Wnt ?_
   refine WC.ret <| thenQ_r <| blkQ_r <| thenQ_r <| retQ.one (ii 40) rfl ?_
   exact ⟨_, rfl, by simp_all [ltrlB, errn], (St.selT [Blk b1 61 [(.int .i8 (l.kind)), (.string l.atom.pred), av, (.int .i8 (l.rel)), (.int .i8 (l.left.op)), (.string l.left.term.var), (.int .i8 (l.left.term.val.kind)), (.int .i64 (l.left.term.val.num)), (.string l.left.term.val.text), lk, (.int .i8 (l.right.op)), (.string l.right.term.var), (.int .i8 (l.right.term.val.kind)), (.int .i64 (l.right.term.val.num)), (.string l.right.term.val.text), rk]] [] rfl (by decide) st12)⟩
  refine WC.skip ?_
  refine thenQ_n ?_
  refine Wsr ?_
  refine W1 (OpT.field 1 ⟨b1, 0, none⟩ ⟨b1, 1, none⟩ tf61_1 rfl rfl ?_)
  refine W1 (OpT.loadA ⟨b1, 1, none⟩ 2 [(.string l.atom.pred), av] ta54 ts54 rfl ((st12.rowB (i := 0) rfl).part 1 2) rfl ?_)
  refine W1 (OpT.callS cal59 [] [] [(.agg #[(.string l.atom.pred), av])] rfl (ca1 rfl) (CheckAtom_spec st12 l.atom _ ha) ?_)
  rintro v14 w15 ⟨rfl, st16⟩
  refine W1 (OpT.assign (.int .i64 (errn (atmB l.atom) 40)) rfl ?_)
  refine Wnt ?_
  refine WC.ret <| blkQ_r <| thenQ_r <| retQ.one (.int .i64 (errn (atmB l.atom) 40)) rfl ?_
  exact ⟨_, rfl, by simp_all [ltrlB, errn], (St.selT [Blk b1 61 [(.int .i8 (l.kind)), (.string l.atom.pred), av, (.int .i8 (l.rel)), (.int .i8 (l.left.op)), (.string l.left.term.var), (.int .i8 (l.left.term.val.kind)), (.int .i64 (l.left.term.val.num)), (.string l.left.term.val.text), lk, (.int .i8 (l.right.op)), (.string l.right.term.var), (.int .i8 (l.right.term.val.kind)), (.int .i64 (l.right.term.val.num)), (.string l.right.term.val.text), rk]] [] rfl (by decide) st16)⟩
 refine WC.region ?_
 refine W1 (OpT.ieq .i8 (l.kind) (2) rfl rfl ?_)
 refine W1 (OpT.assign (.bool (decide (l.kind = 2))) rfl ?_)
 refine Wnt ?_
 refine WC.condP (l.kind = 2) rfl (fun h17 => ?_) (fun h17 => ?_)
 ·refine WC.seq ?_
  refine Wsr ?_
  refine W1 (OpT.field 3 ⟨b1, 0, none⟩ ⟨b1, 3, none⟩ tf61_2 rfl rfl ?_)
  refine W1 (OpT.loadS ⟨b1, 3, none⟩ (.int .i8 (l.rel)) ta55 rfl (st3.cellB (i := 0) rfl rfl) ?_)
  refine W1 (OpT.ine .i8 (l.rel) (0) rfl rfl ?_)
  refine W1 (OpT.move (.bool (decide (l.rel ≠ 0))) rfl ?_)
  by_cases h18 : l.rel ≠ 0
  ·refine WL.pass (dj := 11) (c := true) rfl rfl rfl (bT h18) rfl ?_
   refine WL.pass (dj := 11) (c := true) rfl rfl rfl (bT h18) rfl ?_
   refine WL.pass (dj := 11) (c := true) rfl rfl rfl (bT h18) rfl ?_
   refine WL.pass (dj := 11) (c := true) rfl rfl rfl (bT h18) rfl ?_
   refine W1 (OpT.pickT (.bool true) (bT h18) rfl ?_)
   refine W1 (OpT.move (.bool true) rfl ?_)
   refine WL.pass (dj := 17) (c := true) rfl rfl rfl rfl rfl ?_
   refine WL.pass (dj := 17) (c := true) rfl rfl rfl rfl rfl ?_
   refine WL.pass (dj := 17) (c := true) rfl rfl rfl rfl rfl ?_
   refine WL.pass (dj := 17) (c := true) rfl rfl rfl rfl rfl ?_
   refine W1 (OpT.pickT (.bool true) rfl rfl ?_)
   refine Wnt ?_
   refine WC.condT rfl ?_
   refine Wsr ?_
   refine W1 (OpT.assign (ii 40) rfl ?_)
   refine Wnt ?_
   refine WC.ret <| thenQ_r <| blkQ_r <| thenQ_r <| retQ.one (ii 40) rfl ?_
   exact ⟨_, rfl, by simp_all [ltrlB, errn], (St.selT [Blk b1 61 [(.int .i8 (l.kind)), (.string l.atom.pred), av, (.int .i8 (l.rel)), (.int .i8 (l.left.op)), (.string l.left.term.var), (.int .i8 (l.left.term.val.kind)), (.int .i64 (l.left.term.val.num)), (.string l.left.term.val.text), lk, (.int .i8 (l.right.op)), (.string l.right.term.var), (.int .i8 (l.right.term.val.kind)), (.int .i64 (l.right.term.val.num)), (.string l.right.term.val.text), rk]] [] rfl (by decide) st3)⟩
  refine W2 (dj := 11) (bF h18) (OpT.field 4 ⟨b1, 0, none⟩ ⟨b1, 4, none⟩ tf61_3 rfl rfl ?_)
  refine W2 (dj := 11) (bF h18) (OpT.loadA ⟨b1, 4, none⟩ 6 [(.int .i8 (l.left.op)), (.string l.left.term.var), (.int .i8 (l.left.term.val.kind)), (.int .i64 (l.left.term.val.num)), (.string l.left.term.val.text), lk] ta59 ts59 rfl ((st3.rowB (i := 0) rfl).part 4 6) rfl ?_)
  refine W2 (dj := 11) (bF h18) (OpT.callS cal58 [] [] [(.agg #[(.int .i8 (l.left.op)), (.string l.left.term.var), (.int .i8 (l.left.term.val.kind)), (.int .i64 (l.left.term.val.num)), (.string l.left.term.val.text), lk])] rfl (ca1 rfl) (empty_spec st3 l.left _ hl) ?_)
  rintro v19 w20 ⟨rfl, st21⟩
  refine W2 (dj := 11) (bF h18) (OpT.not (emptyB l.left) rfl ?_)
  refine W1 (OpT.pickF (.bool (!(emptyB l.left))) (bF h18) rfl ?_)
  refine W1 (OpT.move (.bool (!(emptyB l.left))) rfl ?_)
  by_cases h22 : (!(emptyB l.left)) = true
  ·refine WL.pass (dj := 17) (c := true) rfl rfl rfl (congrArg Value.bool h22) rfl ?_
   refine WL.pass (dj := 17) (c := true) rfl rfl rfl (congrArg Value.bool h22) rfl ?_
   refine WL.pass (dj := 17) (c := true) rfl rfl rfl (congrArg Value.bool h22) rfl ?_
   refine WL.pass (dj := 17) (c := true) rfl rfl rfl (congrArg Value.bool h22) rfl ?_
   refine W1 (OpT.pickT (.bool true) (congrArg Value.bool h22) rfl ?_)
   refine Wnt ?_
   refine WC.condT rfl ?_
   refine Wsr ?_
   refine W1 (OpT.assign (ii 40) rfl ?_)
   refine Wnt ?_
   refine WC.ret <| thenQ_r <| blkQ_r <| thenQ_r <| retQ.one (ii 40) rfl ?_
   exact ⟨_, rfl, by simp_all [ltrlB, errn], (St.selT [Blk b1 61 [(.int .i8 (l.kind)), (.string l.atom.pred), av, (.int .i8 (l.rel)), (.int .i8 (l.left.op)), (.string l.left.term.var), (.int .i8 (l.left.term.val.kind)), (.int .i64 (l.left.term.val.num)), (.string l.left.term.val.text), lk, (.int .i8 (l.right.op)), (.string l.right.term.var), (.int .i8 (l.right.term.val.kind)), (.int .i64 (l.right.term.val.num)), (.string l.right.term.val.text), rk]] [] rfl (by decide) st21)⟩
  have h22 := Bool.eq_false_iff.2 h22
  refine W2 (dj := 17) (congrArg Value.bool h22) (OpT.field 10 ⟨b1, 0, none⟩ ⟨b1, 10, none⟩ tf61_4 rfl rfl ?_)
  refine W2 (dj := 17) (congrArg Value.bool h22) (OpT.loadA ⟨b1, 10, none⟩ 6 [(.int .i8 (l.right.op)), (.string l.right.term.var), (.int .i8 (l.right.term.val.kind)), (.int .i64 (l.right.term.val.num)), (.string l.right.term.val.text), rk] ta59 ts59 rfl ((st21.rowB (i := 0) rfl).part 10 6) rfl ?_)
  refine W2 (dj := 17) (congrArg Value.bool h22) (OpT.callS cal58 [] [] [(.agg #[(.int .i8 (l.right.op)), (.string l.right.term.var), (.int .i8 (l.right.term.val.kind)), (.int .i64 (l.right.term.val.num)), (.string l.right.term.val.text), rk])] rfl (ca1 rfl) (empty_spec st21 l.right _ hr) ?_)
  rintro v23 w24 ⟨rfl, st25⟩
  refine W2 (dj := 17) (congrArg Value.bool h22) (OpT.not (emptyB l.right) rfl ?_)
  refine W1 (OpT.pickF (.bool (!(emptyB l.right))) (congrArg Value.bool h22) rfl ?_)
  refine Wnt ?_
  refine WC.cond ((!(emptyB l.right))) rfl (fun h26 => ?_) (fun h26 => ?_)
  ·refine WC.seq ?_
   refine WC.region ?_
   refine W1 (OpT.assign (ii 40) rfl ?_)
   refine Wnt ?_
   refine WC.ret <| thenQ_r <| blkQ_r <| thenQ_r <| retQ.one (ii 40) rfl ?_
   exact ⟨_, rfl, by simp_all [ltrlB, errn], (St.selT [Blk b1 61 [(.int .i8 (l.kind)), (.string l.atom.pred), av, (.int .i8 (l.rel)), (.int .i8 (l.left.op)), (.string l.left.term.var), (.int .i8 (l.left.term.val.kind)), (.int .i64 (l.left.term.val.num)), (.string l.left.term.val.text), lk, (.int .i8 (l.right.op)), (.string l.right.term.var), (.int .i8 (l.right.term.val.kind)), (.int .i64 (l.right.term.val.num)), (.string l.right.term.val.text), rk]] [] rfl (by decide) st25)⟩
  refine WC.skip ?_
  refine thenQ_n ?_
  refine Wsr ?_
  refine W1 (OpT.field 1 ⟨b1, 0, none⟩ ⟨b1, 1, none⟩ tf61_1 rfl rfl ?_)
  refine W1 (OpT.loadA ⟨b1, 1, none⟩ 2 [(.string l.atom.pred), av] ta54 ts54 rfl ((st25.rowB (i := 0) rfl).part 1 2) rfl ?_)
  refine W1 (OpT.callS cal59 [] [] [(.agg #[(.string l.atom.pred), av])] rfl (ca1 rfl) (CheckAtom_spec st25 l.atom _ ha) ?_)
  rintro v27 w28 ⟨rfl, st29⟩
  refine W1 (OpT.assign (.int .i64 (errn (atmB l.atom) 40)) rfl ?_)
  refine Wnt ?_
  refine WC.ret <| blkQ_r <| thenQ_r <| retQ.one (.int .i64 (errn (atmB l.atom) 40)) rfl ?_
  exact ⟨_, rfl, by simp_all [ltrlB, errn], (St.selT [Blk b1 61 [(.int .i8 (l.kind)), (.string l.atom.pred), av, (.int .i8 (l.rel)), (.int .i8 (l.left.op)), (.string l.left.term.var), (.int .i8 (l.left.term.val.kind)), (.int .i64 (l.left.term.val.num)), (.string l.left.term.val.text), lk, (.int .i8 (l.right.op)), (.string l.right.term.var), (.int .i8 (l.right.term.val.kind)), (.int .i64 (l.right.term.val.num)), (.string l.right.term.val.text), rk]] [] rfl (by decide) st29)⟩
 refine Wsr ?_
 refine W1 (OpT.ieq .i8 (l.kind) (3) rfl rfl ?_)
 refine W1 (OpT.assign (.bool (decide (l.kind = 3))) rfl ?_)
 refine Wnt ?_
 refine WC.condP (l.kind = 3) rfl (fun h30 => ?_) (fun h30 => ?_)
 ·refine WC.seq ?_
  refine Wsr ?_
  refine W1 (OpT.field 1 ⟨b1, 0, none⟩ ⟨b1, 1, none⟩ tf61_1 rfl rfl ?_)
  refine W1 (OpT.field 0 ⟨b1, 1, none⟩ ⟨b1, 1, none⟩ tf54_0 rfl rfl ?_)
  refine W1 (OpT.loadS ⟨b1, 1, none⟩ (.string l.atom.pred) ta9 rfl (st3.cellB (i := 0) rfl rfl) ?_)
  refine W1 (OpT.sne (l.atom.pred) ((⟨#[]⟩ : ByteArray)) rfl rfl ?_)
  refine W1 (OpT.move (.bool (decide (l.atom.pred ≠ (⟨#[]⟩ : ByteArray)))) rfl ?_)
  by_cases h31 : l.atom.pred ≠ (⟨#[]⟩ : ByteArray)
  ·refine WL.pass (dj := 32) (c := true) rfl rfl rfl (bT h31) rfl ?_
   refine WL.pass (dj := 32) (c := true) rfl rfl rfl (bT h31) rfl ?_
   refine WL.pass (dj := 32) (c := true) rfl rfl rfl (bT h31) rfl ?_
   refine WL.pass (dj := 32) (c := true) rfl rfl rfl (bT h31) rfl ?_
   refine WL.pass (dj := 32) (c := true) rfl rfl rfl (bT h31) rfl ?_
   refine W1 (OpT.pickT (.bool true) (bT h31) rfl ?_)
   refine W1 (OpT.move (.bool true) rfl ?_)
   refine WL.pass (dj := 39) (c := true) rfl rfl rfl rfl rfl ?_
   refine WL.pass (dj := 39) (c := true) rfl rfl rfl rfl rfl ?_
   refine WL.pass (dj := 39) (c := true) rfl rfl rfl rfl rfl ?_
   refine W1 (OpT.pickT (.bool true) rfl rfl ?_)
   refine W1 (OpT.move (.bool true) rfl ?_)
   refine WL.pass (dj := 44) (c := true) rfl rfl rfl rfl rfl ?_
   refine WL.pass (dj := 44) (c := true) rfl rfl rfl rfl rfl ?_
   refine WL.pass (dj := 44) (c := true) rfl rfl rfl rfl rfl ?_
   refine W1 (OpT.pickT (.bool true) rfl rfl ?_)
   refine W1 (OpT.move (.bool true) rfl ?_)
   refine WL.pass (dj := 49) (c := true) rfl rfl rfl rfl rfl ?_
   refine WL.pass (dj := 49) (c := true) rfl rfl rfl rfl rfl ?_
   refine WL.pass (dj := 49) (c := true) rfl rfl rfl rfl rfl ?_
   refine WL.pass (dj := 49) (c := true) rfl rfl rfl rfl rfl ?_
   refine W1 (OpT.pickT (.bool true) rfl rfl ?_)
   refine Wnt ?_
   refine WC.condT rfl ?_
   refine Wsr ?_
   refine W1 (OpT.assign (ii 40) rfl ?_)
   refine Wnt ?_
   refine WC.ret <| thenQ_r <| blkQ_r <| thenQ_r <| retQ.one (ii 40) rfl ?_
   exact ⟨_, rfl, by simp_all [ltrlB, errn], (St.selT [Blk b1 61 [(.int .i8 (l.kind)), (.string l.atom.pred), av, (.int .i8 (l.rel)), (.int .i8 (l.left.op)), (.string l.left.term.var), (.int .i8 (l.left.term.val.kind)), (.int .i64 (l.left.term.val.num)), (.string l.left.term.val.text), lk, (.int .i8 (l.right.op)), (.string l.right.term.var), (.int .i8 (l.right.term.val.kind)), (.int .i64 (l.right.term.val.num)), (.string l.right.term.val.text), rk]] [] rfl (by decide) st3)⟩
  refine W2 (dj := 32) (bF h31) (OpT.field 1 ⟨b1, 0, none⟩ ⟨b1, 1, none⟩ tf61_1 rfl rfl ?_)
  refine W2 (dj := 32) (bF h31) (OpT.field 1 ⟨b1, 1, none⟩ ⟨b1, 2, none⟩ tf54_1 rfl rfl ?_)
  refine W2 (dj := 32) (bF h31) (OpT.loadS ⟨b1, 2, none⟩ av ta52 rfl (st3.cellB (i := 0) rfl rfl) ?_)
  refine W2 (dj := 32) (bF h31) (OpT.lenR rfl tu52 ha rfl ?_)
  refine W2 (dj := 32) (bF h31) (OpT.igt .i64 (((l.atom.args.length : Nat) : Int)) (0) rfl rfl ?_)
  refine W1 (OpT.pickF (.bool (decide (0 < ((l.atom.args.length : Nat) : Int)))) (bF h31) rfl ?_)
  refine W1 (OpT.move (.bool (decide (0 < ((l.atom.args.length : Nat) : Int)))) rfl ?_)
  by_cases h32 : 0 < ((l.atom.args.length : Nat) : Int)
  ·refine WL.pass (dj := 39) (c := true) rfl rfl rfl (bT h32) rfl ?_
   refine WL.pass (dj := 39) (c := true) rfl rfl rfl (bT h32) rfl ?_
   refine WL.pass (dj := 39) (c := true) rfl rfl rfl (bT h32) rfl ?_
   refine W1 (OpT.pickT (.bool true) (bT h32) rfl ?_)
   refine W1 (OpT.move (.bool true) rfl ?_)
   refine WL.pass (dj := 44) (c := true) rfl rfl rfl rfl rfl ?_
   refine WL.pass (dj := 44) (c := true) rfl rfl rfl rfl rfl ?_
   refine WL.pass (dj := 44) (c := true) rfl rfl rfl rfl rfl ?_
   refine W1 (OpT.pickT (.bool true) rfl rfl ?_)
   refine W1 (OpT.move (.bool true) rfl ?_)
   refine WL.pass (dj := 49) (c := true) rfl rfl rfl rfl rfl ?_
   refine WL.pass (dj := 49) (c := true) rfl rfl rfl rfl rfl ?_
   refine WL.pass (dj := 49) (c := true) rfl rfl rfl rfl rfl ?_
   refine WL.pass (dj := 49) (c := true) rfl rfl rfl rfl rfl ?_
   refine W1 (OpT.pickT (.bool true) rfl rfl ?_)
   refine Wnt ?_
   refine WC.condT rfl ?_
   refine Wsr ?_
   refine W1 (OpT.assign (ii 40) rfl ?_)
   refine Wnt ?_
   refine WC.ret <| thenQ_r <| blkQ_r <| thenQ_r <| retQ.one (ii 40) rfl ?_
   exact ⟨_, rfl, by simp_all [ltrlB, errn], (St.selT [Blk b1 61 [(.int .i8 (l.kind)), (.string l.atom.pred), av, (.int .i8 (l.rel)), (.int .i8 (l.left.op)), (.string l.left.term.var), (.int .i8 (l.left.term.val.kind)), (.int .i64 (l.left.term.val.num)), (.string l.left.term.val.text), lk, (.int .i8 (l.right.op)), (.string l.right.term.var), (.int .i8 (l.right.term.val.kind)), (.int .i64 (l.right.term.val.num)), (.string l.right.term.val.text), rk]] [] rfl (by decide) st3)⟩
  refine W2 (dj := 39) (bF h32) (OpT.field 3 ⟨b1, 0, none⟩ ⟨b1, 3, none⟩ tf61_2 rfl rfl ?_)
  refine W2 (dj := 39) (bF h32) (OpT.loadS ⟨b1, 3, none⟩ (.int .i8 (l.rel)) ta55 rfl (st3.cellB (i := 0) rfl rfl) ?_)
  refine W2 (dj := 39) (bF h32) (OpT.ilt .i8 (l.rel) (1) rfl rfl ?_)
  refine W1 (OpT.pickF (.bool (decide (l.rel < 1))) (bF h32) rfl ?_)
  refine W1 (OpT.move (.bool (decide (l.rel < 1))) rfl ?_)
  by_cases h33 : l.rel < 1
  ·refine WL.pass (dj := 44) (c := true) rfl rfl rfl (bT h33) rfl ?_
   refine WL.pass (dj := 44) (c := true) rfl rfl rfl (bT h33) rfl ?_
   refine WL.pass (dj := 44) (c := true) rfl rfl rfl (bT h33) rfl ?_
   refine W1 (OpT.pickT (.bool true) (bT h33) rfl ?_)
   refine W1 (OpT.move (.bool true) rfl ?_)
   refine WL.pass (dj := 49) (c := true) rfl rfl rfl rfl rfl ?_
   refine WL.pass (dj := 49) (c := true) rfl rfl rfl rfl rfl ?_
   refine WL.pass (dj := 49) (c := true) rfl rfl rfl rfl rfl ?_
   refine WL.pass (dj := 49) (c := true) rfl rfl rfl rfl rfl ?_
   refine W1 (OpT.pickT (.bool true) rfl rfl ?_)
   refine Wnt ?_
   refine WC.condT rfl ?_
   refine Wsr ?_
   refine W1 (OpT.assign (ii 40) rfl ?_)
   refine Wnt ?_
   refine WC.ret <| thenQ_r <| blkQ_r <| thenQ_r <| retQ.one (ii 40) rfl ?_
   exact ⟨_, rfl, by simp_all [ltrlB, errn], (St.selT [Blk b1 61 [(.int .i8 (l.kind)), (.string l.atom.pred), av, (.int .i8 (l.rel)), (.int .i8 (l.left.op)), (.string l.left.term.var), (.int .i8 (l.left.term.val.kind)), (.int .i64 (l.left.term.val.num)), (.string l.left.term.val.text), lk, (.int .i8 (l.right.op)), (.string l.right.term.var), (.int .i8 (l.right.term.val.kind)), (.int .i64 (l.right.term.val.num)), (.string l.right.term.val.text), rk]] [] rfl (by decide) st3)⟩
  refine W2 (dj := 44) (bF h33) (OpT.field 3 ⟨b1, 0, none⟩ ⟨b1, 3, none⟩ tf61_2 rfl rfl ?_)
  refine W2 (dj := 44) (bF h33) (OpT.loadS ⟨b1, 3, none⟩ (.int .i8 (l.rel)) ta55 rfl (st3.cellB (i := 0) rfl rfl) ?_)
  refine W2 (dj := 44) (bF h33) (OpT.igt .i8 (l.rel) (6) rfl rfl ?_)
  refine W1 (OpT.pickF (.bool (decide (6 < l.rel))) (bF h33) rfl ?_)
  refine W1 (OpT.move (.bool (decide (6 < l.rel))) rfl ?_)
  by_cases h34 : 6 < l.rel
  ·refine WL.pass (dj := 49) (c := true) rfl rfl rfl (bT h34) rfl ?_
   refine WL.pass (dj := 49) (c := true) rfl rfl rfl (bT h34) rfl ?_
   refine WL.pass (dj := 49) (c := true) rfl rfl rfl (bT h34) rfl ?_
   refine WL.pass (dj := 49) (c := true) rfl rfl rfl (bT h34) rfl ?_
   refine W1 (OpT.pickT (.bool true) (bT h34) rfl ?_)
   refine Wnt ?_
   refine WC.condT rfl ?_
   refine Wsr ?_
   refine W1 (OpT.assign (ii 40) rfl ?_)
   refine Wnt ?_
   refine WC.ret <| thenQ_r <| blkQ_r <| thenQ_r <| retQ.one (ii 40) rfl ?_
   exact ⟨_, rfl, by simp_all [ltrlB, errn], (St.selT [Blk b1 61 [(.int .i8 (l.kind)), (.string l.atom.pred), av, (.int .i8 (l.rel)), (.int .i8 (l.left.op)), (.string l.left.term.var), (.int .i8 (l.left.term.val.kind)), (.int .i64 (l.left.term.val.num)), (.string l.left.term.val.text), lk, (.int .i8 (l.right.op)), (.string l.right.term.var), (.int .i8 (l.right.term.val.kind)), (.int .i64 (l.right.term.val.num)), (.string l.right.term.val.text), rk]] [] rfl (by decide) st3)⟩
  refine W2 (dj := 49) (bF h34) (OpT.field 4 ⟨b1, 0, none⟩ ⟨b1, 4, none⟩ tf61_3 rfl rfl ?_)
  refine W2 (dj := 49) (bF h34) (OpT.loadA ⟨b1, 4, none⟩ 6 [(.int .i8 (l.left.op)), (.string l.left.term.var), (.int .i8 (l.left.term.val.kind)), (.int .i64 (l.left.term.val.num)), (.string l.left.term.val.text), lk] ta59 ts59 rfl ((st3.rowB (i := 0) rfl).part 4 6) rfl ?_)
  refine W2 (dj := 49) (bF h34) (OpT.callS cal60 [] [] [(.agg #[(.int .i8 (l.left.op)), (.string l.left.term.var), (.int .i8 (l.left.term.val.kind)), (.int .i64 (l.left.term.val.num)), (.string l.left.term.val.text), lk])] rfl (ca1 rfl) (CheckExpr_spec st3 l.left _ hl) ?_)
  rintro v35 w36 ⟨rfl, st37⟩
  refine W2 (dj := 49) (bF h34) (OpT.ine .i64 (errn (deepB 8 l.left) 40) (0) rfl rfl ?_)
  refine W1 (OpT.pickF (.bool (decide ((errn (deepB 8 l.left) 40) ≠ 0))) (bF h34) rfl ?_)
  refine Wnt ?_
  refine WC.condP ((errn (deepB 8 l.left) 40) ≠ 0) rfl (fun h38 => ?_) (fun h38 => ?_)
  ·have h38b := errn_ne _ h38
   refine Wsr ?_
   refine W1 (OpT.assign (ii 40) rfl ?_)
   refine Wnt ?_
   refine WC.ret <| thenQ_r <| blkQ_r <| thenQ_r <| retQ.one (ii 40) rfl ?_
   exact ⟨_, rfl, by simp_all [ltrlB, errn], (St.selT [Blk b1 61 [(.int .i8 (l.kind)), (.string l.atom.pred), av, (.int .i8 (l.rel)), (.int .i8 (l.left.op)), (.string l.left.term.var), (.int .i8 (l.left.term.val.kind)), (.int .i64 (l.left.term.val.num)), (.string l.left.term.val.text), lk, (.int .i8 (l.right.op)), (.string l.right.term.var), (.int .i8 (l.right.term.val.kind)), (.int .i64 (l.right.term.val.num)), (.string l.right.term.val.text), rk]] [] rfl (by decide) st37)⟩
  have h38b := errn_eq _ h38
  refine WC.skip ?_
  refine thenQ_n ?_
  refine Wsr ?_
  refine W1 (OpT.field 10 ⟨b1, 0, none⟩ ⟨b1, 10, none⟩ tf61_4 rfl rfl ?_)
  refine W1 (OpT.loadA ⟨b1, 10, none⟩ 6 [(.int .i8 (l.right.op)), (.string l.right.term.var), (.int .i8 (l.right.term.val.kind)), (.int .i64 (l.right.term.val.num)), (.string l.right.term.val.text), rk] ta59 ts59 rfl ((st37.rowB (i := 0) rfl).part 10 6) rfl ?_)
  refine W1 (OpT.callS cal60 [] [] [(.agg #[(.int .i8 (l.right.op)), (.string l.right.term.var), (.int .i8 (l.right.term.val.kind)), (.int .i64 (l.right.term.val.num)), (.string l.right.term.val.text), rk])] rfl (ca1 rfl) (CheckExpr_spec st37 l.right _ hr) ?_)
  rintro v39 w40 ⟨rfl, st41⟩
  refine W1 (OpT.assign (.int .i64 (errn (deepB 8 l.right) 40)) rfl ?_)
  refine Wnt ?_
  refine WC.ret <| blkQ_r <| thenQ_r <| retQ.one (.int .i64 (errn (deepB 8 l.right) 40)) rfl ?_
  exact ⟨_, rfl, by simp_all [ltrlB, errn], (St.selT [Blk b1 61 [(.int .i8 (l.kind)), (.string l.atom.pred), av, (.int .i8 (l.rel)), (.int .i8 (l.left.op)), (.string l.left.term.var), (.int .i8 (l.left.term.val.kind)), (.int .i64 (l.left.term.val.num)), (.string l.left.term.val.text), lk, (.int .i8 (l.right.op)), (.string l.right.term.var), (.int .i8 (l.right.term.val.kind)), (.int .i64 (l.right.term.val.num)), (.string l.right.term.val.text), rk]] [] rfl (by decide) st41)⟩
 refine WC.skip ?_
 refine blkQ_n ?_
 refine thenQ_n ?_
 refine Wsr ?_
 refine W1 (OpT.assign (ii 40) rfl ?_)
 refine Wnt ?_
 refine WC.ret <| retQ.one (ii 40) rfl ?_
 exact ⟨_, rfl, by simp_all [ltrlB, errn], (St.selT [Blk b1 61 [(.int .i8 (l.kind)), (.string l.atom.pred), av, (.int .i8 (l.rel)), (.int .i8 (l.left.op)), (.string l.left.term.var), (.int .i8 (l.left.term.val.kind)), (.int .i64 (l.left.term.val.num)), (.string l.left.term.val.text), lk, (.int .i8 (l.right.op)), (.string l.right.term.var), (.int .i8 (l.right.term.val.kind)), (.int .i64 (l.right.term.val.num)), (.string l.right.term.val.text), rk]] [] rfl (by decide) st3)⟩

end Go.Ped
