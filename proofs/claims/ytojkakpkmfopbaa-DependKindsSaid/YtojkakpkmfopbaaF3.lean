/- Terms, by themselves. -/
import Derived.Test.YtojkakpkmfopbaaF1
import Derived.Test.YtojkakpkmfopbaaF2
import Derived.Test.YtojkakpkmfopbaaEngG
import Derived.Test.YtojkakpkmfopbaaF2
set_option linter.unusedVariables false
set_option maxRecDepth 20000
namespace Go.Ped
open Go Go.Eng Go.RowKit Go.Proofs

theorem ta36 : aggB Try.prog 36 = some true := by kernel_rfl
theorem ts36 : sizeB Try.prog 36 = some 3 := by kernel_rfl
theorem ta38 : aggB Try.prog 38 = some true := by kernel_rfl
theorem ts38 : sizeB Try.prog 38 = some 4 := by kernel_rfl
theorem tp38 : placesB Try.prog 38 = some [(0, 1), (1, 3)] := by kernel_rfl
theorem tz38 : zeroB Try.prog 38 = some (.agg #[(.string (⟨#[]⟩ : ByteArray)), (.int .i8 (0)), (.int .i64 (0)), (.string (⟨#[]⟩ : ByteArray))]) := by kernel_rfl
theorem tg38 : Try.prog.eqGuardType Try.prog.depth 38 = false := by kernel_rfl
theorem cal55 : CallOk Try.prog 55 := ⟨⟨Try.f55, Try.func55, rfl, by decide⟩⟩
theorem tf38_0 : fieldB Try.prog 38 0 = some 0 := by kernel_rfl
theorem tf38_1 : fieldB Try.prog 38 1 = some 1 := by kernel_rfl
theorem cal72 : CallOk Try.prog 72 := ⟨⟨Try.f72, Try.func72, rfl, by decide⟩⟩
theorem cal45 : CallOk Try.prog 45 := ⟨⟨Try.f45, Try.func45, rfl, by decide⟩⟩
theorem tp36 : placesB Try.prog 36 = some [(0, 1), (1, 1), (2, 1)] := by kernel_rfl
theorem tz36 : zeroB Try.prog 36 = some (.agg #[(.int .i8 (0)), (.int .i64 (0)), (.string (⟨#[]⟩ : ByteArray))]) := by kernel_rfl
theorem tg36 : Try.prog.eqGuardType Try.prog.depth 36 = false := by kernel_rfl
theorem cal65 : CallOk Try.prog 65 := ⟨⟨Try.f65, Try.func65, rfl, by decide⟩⟩
def zVal : Val := ⟨0, 0, ⟨#[]⟩⟩
    def zTrm : Trm := ⟨⟨#[]⟩, zVal⟩
    theorem eqVal (d : Nat) (w : World) (a b : Val) : (Op.equalIn (d + 2) 36 (.agg #[.int .i8 a.kind, .int .i64 a.num, .string a.text]) (.agg #[.int .i8 b.kind, .int .i64 b.num, .string b.text])).run Try.prog w = .ok (decide (a = b)) w := by
      have h : decide (a = b) = ((a.kind == b.kind) && ((a.num == b.num) && ((a.text.toList == b.text.toList) && true))) := by
        rw [toList_eq_iff, Bool.eq_iff_iff]
        simp only [decide_eq_true_eq, Bool.and_eq_true, beq_iff_eq, and_true]
        cases a; cases b; simp
      rw [h]
      refine eqs_of Try.underlying36 (by kernel_rfl) ?_
      refine eqs_cons (by decide) (run_partS ta34 rfl) (run_partS ta34 rfl) (run_equalIn_int w d 34 .i8 .i8 _ _ (by kernel_rfl)) ?_
      refine eqs_cons (by decide) (run_partS ta2 rfl) (run_partS ta2 rfl) (run_equalIn_int w d 2 .i64 .i64 _ _ (by kernel_rfl)) ?_
      exact eqs_cons (by decide) (run_partS ta9 rfl) (run_partS ta9 rfl) (run_equalIn_string w d 9 _ _ (by kernel_rfl)) eqs_nil
    theorem eqTrm (d : Nat) (w : World) (a b : Trm) : (Op.equalIn (d + 3) 38 (.agg #[.string a.var, .int .i8 a.val.kind, .int .i64 a.val.num, .string a.val.text]) (.agg #[.string b.var, .int .i8 b.val.kind, .int .i64 b.val.num, .string b.val.text])).run Try.prog w = .ok (decide (a = b)) w := by
      have h : decide (a = b) = ((a.var.toList == b.var.toList) && ((decide (a.val = b.val)) && true)) := by
        rw [toList_eq_iff, Bool.eq_iff_iff]
        simp only [decide_eq_true_eq, Bool.and_eq_true, and_true]
        cases a; cases b; simp
      rw [h]
      refine eqs_of Try.underlying38 (by kernel_rfl) ?_
      refine eqs_cons (by decide) (run_partS ta9 rfl) (run_partS ta9 rfl) (run_equalIn_string w _ 9 _ _ (by kernel_rfl)) ?_
      exact eqs_cons (by decide) (run_partA ta36 ts36) (run_partA ta36 ts36) (eqVal d w a.val b.val) eqs_nil
theorem none_spec {Z : Nat → Prop} {w0 w : World} {L : List Res} (st : St Z w0 w L) (t : Trm) : Calls Try.prog 57 #[(.agg #[(.string t.var), (.int .i8 (t.val.kind)), (.int .i64 (t.val.num)), (.string t.val.text)])] w (Ret fun r w' => r = .bool (decide (t = zTrm)) ∧ St Z w0 w' L) := by
 refine calls_of_WC (m := 6) (rs := [.tmp 2]) Try.func57 rfl rfl rfl rfl ?_
 refine Wsr ?_
 refine W1 (OpT.box st (.agg #[(.string t.var), (.int .i8 (t.val.kind)), (.int .i64 (t.val.num)), (.string t.val.text)]) [(.string t.var), (.int .i8 (t.val.kind)), (.int .i64 (t.val.num)), (.string t.val.text)] rfl rfl (fun b1 w2 st3 => ?_))
 refine W1 (OpT.assign (.bool false) rfl ?_)
 refine Wns ?_
 refine W1 (OpT.loadA ⟨b1, 0, none⟩ 4 [(.string t.var), (.int .i8 (t.val.kind)), (.int .i64 (t.val.num)), (.string t.val.text)] ta38 ts38 rfl ((st3.rowB (i := 0) rfl).part 0 4) rfl ?_)
 refine W1 (OpT.build [] [ve, (.int .i8 (0)), (ii 0), ve] tz38 tp38 mp0 rfl ?_)
 refine W1 (OpT.aggEq [(.string t.var), (.int .i8 (t.val.kind)), (.int .i64 (t.val.num)), (.string t.val.text)] [ve, (.int .i8 (0)), (ii 0), ve] (decide (t = zTrm)) tg38 (fun w => eqTrm 9997 w t zTrm) rfl rfl ?_)
 refine W1 (OpT.assign (.bool (decide (t = zTrm))) rfl ?_)
 refine Wnt ?_
 refine WC.ret <| retQ.one (.bool (decide (t = zTrm))) rfl ?_
 exact ⟨_, rfl, rfl, (St.selT [Blk b1 38 [(.string t.var), (.int .i8 (t.val.kind)), (.int .i64 (t.val.num)), (.string t.val.text)]] [] rfl (by decide) st3)⟩

theorem code_spec {Z : Nat → Prop} {w0 w : World} {L : List Res} (st : St Z w0 w L) (b : Bool) : Calls Try.prog 45 #[(.bool b)] w (Ret fun r w' => r = .int .i64 (errn b 40) ∧ St Z w0 w' L) := by
 refine calls_of_WC (m := 4) (rs := [.tmp 2]) Try.func45 rfl rfl rfl rfl ?_
 refine Wsr ?_
 refine W1 (OpT.assign (ii 0) rfl ?_)
 refine Wnt ?_
 refine WC.seq ?_
 refine Wsr ?_
 refine W1 (OpT.move (.bool b) rfl ?_)
 refine Wnt ?_
 refine WC.cond (b) rfl (fun h1 => ?_) (fun h1 => ?_)
 ·refine WC.seq ?_
  refine WC.region ?_
  refine W1 (OpT.assign (ii 0) rfl ?_)
  refine Wnt ?_
  refine WC.ret <| thenQ_r <| retQ.one (ii 0) rfl ?_
  exact ⟨_, rfl, by simp [errn, *], st⟩
 refine WC.skip ?_
 refine thenQ_n ?_
 refine Wsr ?_
 refine W1 (OpT.assign (ii 40) rfl ?_)
 refine Wnt ?_
 refine WC.ret <| retQ.one (ii 40) rfl ?_
 exact ⟨_, rfl, by simp [errn, *], st⟩

def kwB (s : ByteArray) : Bool := decide (s = ⟨#[110, 111, 116]⟩) || decide (s = ⟨#[99, 111, 117, 110, 116]⟩) || decide (s = ⟨#[115, 117, 109]⟩) || decide (s = ⟨#[109, 105, 110]⟩) || decide (s = ⟨#[109, 97, 120]⟩) || decide (s = ⟨#[108, 101, 110]⟩) || decide (s = ⟨#[99, 104, 97, 114, 115]⟩) || decide (s = ⟨#[98, 97, 99, 107]⟩)
    def nameB (s : ByteArray) : Bool := !kwB s && wordB s 97 122
theorem name_spec {Z : Nat → Prop} {w0 w : World} {L : List Res} (st : St Z w0 w L) (s : ByteArray) : Calls Try.prog 42 #[(.string s)] w (Ret fun r w' => r = .bool (nameB s) ∧ St Z w0 w' L) := by
 refine calls_of_WC (m := 15) (rs := [.tmp 2]) Try.func42 rfl rfl rfl rfl ?_
 refine Wsr ?_
 refine W1 (OpT.assign (.bool false) rfl ?_)
 refine Wnt ?_
 refine WC.seq ?_
 refine Wsr ?_
 refine W1 (OpT.move (.string s) rfl ?_)
 refine Wnt ?_
 refine WC.block ?_
 refine WC.seq ?_
 refine Wsr ?_
 refine W1 (OpT.seq (s) ((⟨#[110, 111, 116]⟩ : ByteArray)) rfl rfl ?_)
 refine W1 (OpT.assign (.bool (decide (s = (⟨#[110, 111, 116]⟩ : ByteArray)))) rfl ?_)
 refine Wnt ?_
 refine WC.condP (s = (⟨#[110, 111, 116]⟩ : ByteArray)) rfl (fun h1 => ?_) (fun h1 => ?_)
 ·refine WC.skip ?_
  refine thenQ_n ?_
  refine WC.condT (bT h1) ?_
  refine Wsr ?_
  refine W1 (OpT.assign (.bool false) rfl ?_)
  refine Wnt ?_
  refine WC.ret <| blkQ_r <| thenQ_r <| retQ.one (.bool false) rfl ?_
  exact ⟨_, rfl, by simp [nameB, kwB, *], st⟩
 refine Wsr ?_
 refine W1 (OpT.seq (s) ((⟨#[99, 111, 117, 110, 116]⟩ : ByteArray)) rfl rfl ?_)
 refine W1 (OpT.assign (.bool (decide (s = (⟨#[99, 111, 117, 110, 116]⟩ : ByteArray)))) rfl ?_)
 refine Wnt ?_
 refine WC.condP (s = (⟨#[99, 111, 117, 110, 116]⟩ : ByteArray)) rfl (fun h2 => ?_) (fun h2 => ?_)
 ·refine WC.skip ?_
  refine thenQ_n ?_
  refine WC.condT (bT h2) ?_
  refine Wsr ?_
  refine W1 (OpT.assign (.bool false) rfl ?_)
  refine Wnt ?_
  refine WC.ret <| blkQ_r <| thenQ_r <| retQ.one (.bool false) rfl ?_
  exact ⟨_, rfl, by simp [nameB, kwB, *], st⟩
 refine Wsr ?_
 refine W1 (OpT.seq (s) ((⟨#[115, 117, 109]⟩ : ByteArray)) rfl rfl ?_)
 refine W1 (OpT.assign (.bool (decide (s = (⟨#[115, 117, 109]⟩ : ByteArray)))) rfl ?_)
 refine Wnt ?_
 refine WC.condP (s = (⟨#[115, 117, 109]⟩ : ByteArray)) rfl (fun h3 => ?_) (fun h3 => ?_)
 ·refine WC.skip ?_
  refine thenQ_n ?_
  refine WC.condT (bT h3) ?_
  refine Wsr ?_
  refine W1 (OpT.assign (.bool false) rfl ?_)
  refine Wnt ?_
  refine WC.ret <| blkQ_r <| thenQ_r <| retQ.one (.bool false) rfl ?_
  exact ⟨_, rfl, by simp [nameB, kwB, *], st⟩
 refine Wsr ?_
 refine W1 (OpT.seq (s) ((⟨#[109, 105, 110]⟩ : ByteArray)) rfl rfl ?_)
 refine W1 (OpT.assign (.bool (decide (s = (⟨#[109, 105, 110]⟩ : ByteArray)))) rfl ?_)
 refine Wnt ?_
 refine WC.condP (s = (⟨#[109, 105, 110]⟩ : ByteArray)) rfl (fun h4 => ?_) (fun h4 => ?_)
 ·refine WC.skip ?_
  refine thenQ_n ?_
  refine WC.condT (bT h4) ?_
  refine Wsr ?_
  refine W1 (OpT.assign (.bool false) rfl ?_)
  refine Wnt ?_
  refine WC.ret <| blkQ_r <| thenQ_r <| retQ.one (.bool false) rfl ?_
  exact ⟨_, rfl, by simp [nameB, kwB, *], st⟩
 refine Wsr ?_
 refine W1 (OpT.seq (s) ((⟨#[109, 97, 120]⟩ : ByteArray)) rfl rfl ?_)
 refine W1 (OpT.assign (.bool (decide (s = (⟨#[109, 97, 120]⟩ : ByteArray)))) rfl ?_)
 refine Wnt ?_
 refine WC.condP (s = (⟨#[109, 97, 120]⟩ : ByteArray)) rfl (fun h5 => ?_) (fun h5 => ?_)
 ·refine WC.skip ?_
  refine thenQ_n ?_
  refine WC.condT (bT h5) ?_
  refine Wsr ?_
  refine W1 (OpT.assign (.bool false) rfl ?_)
  refine Wnt ?_
  refine WC.ret <| blkQ_r <| thenQ_r <| retQ.one (.bool false) rfl ?_
  exact ⟨_, rfl, by simp [nameB, kwB, *], st⟩
 refine Wsr ?_
 refine W1 (OpT.seq (s) ((⟨#[108, 101, 110]⟩ : ByteArray)) rfl rfl ?_)
 refine W1 (OpT.assign (.bool (decide (s = (⟨#[108, 101, 110]⟩ : ByteArray)))) rfl ?_)
 refine Wnt ?_
 refine WC.condP (s = (⟨#[108, 101, 110]⟩ : ByteArray)) rfl (fun h6 => ?_) (fun h6 => ?_)
 ·refine WC.skip ?_
  refine thenQ_n ?_
  refine WC.condT (bT h6) ?_
  refine Wsr ?_
  refine W1 (OpT.assign (.bool false) rfl ?_)
  refine Wnt ?_
  refine WC.ret <| blkQ_r <| thenQ_r <| retQ.one (.bool false) rfl ?_
  exact ⟨_, rfl, by simp [nameB, kwB, *], st⟩
 refine Wsr ?_
 refine W1 (OpT.seq (s) ((⟨#[99, 104, 97, 114, 115]⟩ : ByteArray)) rfl rfl ?_)
 refine W1 (OpT.assign (.bool (decide (s = (⟨#[99, 104, 97, 114, 115]⟩ : ByteArray)))) rfl ?_)
 refine Wnt ?_
 refine WC.condP (s = (⟨#[99, 104, 97, 114, 115]⟩ : ByteArray)) rfl (fun h7 => ?_) (fun h7 => ?_)
 ·refine WC.skip ?_
  refine thenQ_n ?_
  refine WC.condT (bT h7) ?_
  refine Wsr ?_
  refine W1 (OpT.assign (.bool false) rfl ?_)
  refine Wnt ?_
  refine WC.ret <| blkQ_r <| thenQ_r <| retQ.one (.bool false) rfl ?_
  exact ⟨_, rfl, by simp [nameB, kwB, *], st⟩
 refine WC.region ?_
 refine W1 (OpT.seq (s) ((⟨#[98, 97, 99, 107]⟩ : ByteArray)) rfl rfl ?_)
 refine W1 (OpT.assign (.bool (decide (s = (⟨#[98, 97, 99, 107]⟩ : ByteArray)))) rfl ?_)
 refine Wnt ?_
 refine WC.condP (s = (⟨#[98, 97, 99, 107]⟩ : ByteArray)) rfl (fun h8 => ?_) (fun h8 => ?_)
 ·refine WC.seq ?_
  refine WC.region ?_
  refine W1 (OpT.assign (.bool false) rfl ?_)
  refine Wnt ?_
  refine WC.ret <| blkQ_r <| thenQ_r <| retQ.one (.bool false) rfl ?_
  exact ⟨_, rfl, by simp [nameB, kwB, *], st⟩
 refine WC.skip ?_
 refine blkQ_n ?_
 refine thenQ_n ?_
 refine Wsr ?_
 refine W1 (OpT.move (.string s) rfl ?_)
 refine W1 (OpT.callS cal55 [] [] [(.string s), (.int .u8 (97)), (.int .u8 (122))] rfl (ca3 rfl rfl rfl) (word_spec st s (97) (122)) ?_)
 rintro v9 w10 ⟨rfl, st11⟩
 refine W1 (OpT.assign (.bool (wordB s 97 122)) rfl ?_)
 refine Wnt ?_
 refine WC.ret <| retQ.one (.bool (wordB s 97 122)) rfl ?_
 exact ⟨_, rfl, by simp [nameB, kwB, *], st11⟩

def trmB (t : Trm) : Bool := if t.var = ⟨#[]⟩ then chkVal t.val else decide (t.val = zVal) && (decide (t.var = ⟨#[95]⟩) || wordB t.var 65 90)
    theorem errn_ok (b : Bool) (n : Int) (h : n ≠ 0) : decide (errn b n = 0) = b := by cases b <;> simp [errn, h]
theorem CheckTerm_spec {Z : Nat → Prop} {w0 w : World} {L : List Res} (st : St Z w0 w L) (t : Trm) : Calls Try.prog 65 #[(.agg #[(.string t.var), (.int .i8 (t.val.kind)), (.int .i64 (t.val.num)), (.string t.val.text)])] w (Ret fun r w' => r = .int .i64 (errn (trmB t) 40) ∧ St Z w0 w' L) := by
 refine calls_of_WC (m := 26) (rs := [.tmp 2]) Try.func65 rfl rfl rfl rfl ?_
 refine Wsr ?_
 refine W1 (OpT.box st (.agg #[(.string t.var), (.int .i8 (t.val.kind)), (.int .i64 (t.val.num)), (.string t.val.text)]) [(.string t.var), (.int .i8 (t.val.kind)), (.int .i64 (t.val.num)), (.string t.val.text)] rfl rfl (fun b1 w2 st3 => ?_))
 refine W1 (OpT.assign (ii 0) rfl ?_)
 refine Wnt ?_
 refine WC.seq ?_
 refine Wsr ?_
 refine W1 (OpT.field 0 ⟨b1, 0, none⟩ ⟨b1, 0, none⟩ tf38_0 rfl rfl ?_)
 refine W1 (OpT.loadS ⟨b1, 0, none⟩ (.string t.var) ta9 rfl (st3.cellB (i := 0) rfl rfl) ?_)
 refine W1 (OpT.seq (t.var) ((⟨#[]⟩ : ByteArray)) rfl rfl ?_)
 refine Wnt ?_
 refine WC.condP (t.var = (⟨#[]⟩ : ByteArray)) rfl (fun h4 => ?_) (fun h4 => ?_)
 ·refine WC.seq ?_
  refine WC.region ?_
  refine W1 (OpT.field 1 ⟨b1, 0, none⟩ ⟨b1, 1, none⟩ tf38_1 rfl rfl ?_)
  refine W1 (OpT.loadA ⟨b1, 1, none⟩ 3 [(.int .i8 (t.val.kind)), (.int .i64 (t.val.num)), (.string t.val.text)] ta36 ts36 rfl ((st3.rowB (i := 0) rfl).part 1 3) rfl ?_)
  refine W1 (OpT.callS cal72 [] [] [(.agg #[(.int .i8 (t.val.kind)), (.int .i64 (t.val.num)), (.string t.val.text)])] rfl (ca1 rfl) (value_Check_spec st3 t.val) ?_)
  rintro v5 w6 ⟨rfl, st7⟩
  refine W1 (OpT.ieq .i64 (errn (chkVal t.val) 10) (0) rfl rfl ?_)
  refine W1 (OpT.callS cal45 [] [] [(.bool (decide ((errn (chkVal t.val) 10) = 0)))] rfl (ca1 rfl) (code_spec st7 (decide ((errn (chkVal t.val) 10) = 0))) ?_)
  rintro v8 w9 ⟨rfl, st10⟩
  refine W1 (OpT.assign (.int .i64 (errn (decide ((errn (chkVal t.val) 10) = 0)) 40)) rfl ?_)
  refine Wnt ?_
  refine WC.ret <| thenQ_r <| retQ.one (.int .i64 (errn (decide ((errn (chkVal t.val) 10) = 0)) 40)) rfl ?_
  exact ⟨_, rfl, by simp [trmB, errn_ok, *], (St.selT [Blk b1 38 [(.string t.var), (.int .i8 (t.val.kind)), (.int .i64 (t.val.num)), (.string t.val.text)]] [] rfl (by decide) st10)⟩
 refine WC.skip ?_
 refine thenQ_n ?_
 refine Wsr ?_
 refine W1 (OpT.field 1 ⟨b1, 0, none⟩ ⟨b1, 1, none⟩ tf38_1 rfl rfl ?_)
 refine W1 (OpT.loadA ⟨b1, 1, none⟩ 3 [(.int .i8 (t.val.kind)), (.int .i64 (t.val.num)), (.string t.val.text)] ta36 ts36 rfl ((st3.rowB (i := 0) rfl).part 1 3) rfl ?_)
 refine W1 (OpT.build [] [(.int .i8 (0)), (ii 0), ve] tz36 tp36 mp0 rfl ?_)
 refine W1 (OpT.aggEq [(.int .i8 (t.val.kind)), (.int .i64 (t.val.num)), (.string t.val.text)] [(.int .i8 (0)), (ii 0), ve] (decide (t.val = zVal)) tg36 (fun w => eqVal 9998 w t.val zVal) rfl rfl ?_)
 refine W1 (OpT.move (.bool (decide (t.val = zVal))) rfl ?_)
 by_cases h11 : t.val = zVal
 ·refine W2 (dj := 15) (bT h11) (OpT.field 0 ⟨b1, 0, none⟩ ⟨b1, 0, none⟩ tf38_0 rfl rfl ?_)
  refine W2 (dj := 15) (bT h11) (OpT.loadS ⟨b1, 0, none⟩ (.string t.var) ta9 rfl (st3.cellB (i := 0) rfl rfl) ?_)
  refine W2 (dj := 15) (bT h11) (OpT.seq (t.var) ((⟨#[95]⟩ : ByteArray)) rfl rfl ?_)
  refine W2 (dj := 15) (bT h11) (OpT.move (.bool (decide (t.var = (⟨#[95]⟩ : ByteArray)))) rfl ?_)
  by_cases h12 : t.var = (⟨#[95]⟩ : ByteArray)
  ·refine WL.pass (dj := 19) (c := true) rfl rfl rfl (bT h12) rfl ?_
   refine WL.pass (dj := 19) (c := true) rfl rfl rfl (bT h12) rfl ?_
   refine WL.pass (dj := 19) (c := true) rfl rfl rfl (bT h12) rfl ?_
   refine W2 (dj := 15) (bT h11) (OpT.pickT (.bool true) (bT h12) rfl ?_)
   refine W1 (OpT.pickT (.bool true) (bT h11) rfl ?_)
   refine W1 (OpT.callS cal45 [] [] [(.bool true)] rfl (ca1 rfl) (code_spec st3 true) ?_)
   rintro v13 w14 ⟨rfl, st15⟩
   refine W1 (OpT.assign (.int .i64 (errn true 40)) rfl ?_)
   refine Wnt ?_
   refine WC.ret <| retQ.one (.int .i64 (errn true 40)) rfl ?_
   exact ⟨_, rfl, by simp [trmB, errn_ok, *], (St.selT [Blk b1 38 [(.string t.var), (.int .i8 (t.val.kind)), (.int .i64 (t.val.num)), (.string t.val.text)]] [] rfl (by decide) st15)⟩
  refine W2 (dj := 19) (bF h12) (OpT.field 0 ⟨b1, 0, none⟩ ⟨b1, 0, none⟩ tf38_0 rfl rfl ?_)
  refine W2 (dj := 19) (bF h12) (OpT.loadS ⟨b1, 0, none⟩ (.string t.var) ta9 rfl (st3.cellB (i := 0) rfl rfl) ?_)
  refine W2 (dj := 19) (bF h12) (OpT.callS cal55 [] [] [(.string t.var), (.int .u8 (65)), (.int .u8 (90))] rfl (ca3 rfl rfl rfl) (word_spec st3 t.var (65) (90)) ?_)
  rintro v16 w17 ⟨rfl, st18⟩
  refine W2 (dj := 15) (bT h11) (OpT.pickF (.bool (wordB t.var 65 90)) (bF h12) rfl ?_)
  refine W1 (OpT.pickT (.bool (wordB t.var 65 90)) (bT h11) rfl ?_)
  refine W1 (OpT.callS cal45 [] [] [(.bool (wordB t.var 65 90))] rfl (ca1 rfl) (code_spec st18 (wordB t.var 65 90)) ?_)
  rintro v19 w20 ⟨rfl, st21⟩
  refine W1 (OpT.assign (.int .i64 (errn (wordB t.var 65 90) 40)) rfl ?_)
  refine Wnt ?_
  refine WC.ret <| retQ.one (.int .i64 (errn (wordB t.var 65 90) 40)) rfl ?_
  exact ⟨_, rfl, by simp [trmB, errn_ok, *], (St.selT [Blk b1 38 [(.string t.var), (.int .i8 (t.val.kind)), (.int .i64 (t.val.num)), (.string t.val.text)]] [] rfl (by decide) st21)⟩
 refine WL.pass (dj := 15) (c := false) rfl rfl rfl (bF h11) rfl ?_
 refine WL.pass (dj := 15) (c := false) rfl rfl rfl (bF h11) rfl ?_
 refine WL.pass (dj := 15) (c := false) rfl rfl rfl (bF h11) rfl ?_
 refine WL.pass (dj := 15) (c := false) rfl rfl rfl (bF h11) rfl ?_
 refine WL.passU (dj := 19) rfl rfl rfl ?_
 refine WL.passU (dj := 19) rfl rfl rfl ?_
 refine WL.passU (dj := 19) rfl rfl rfl ?_
 refine WL.pass (dj := 15) (c := false) rfl rfl rfl (bF h11) rfl ?_
 refine W1 (OpT.pickF (.bool false) (bF h11) rfl ?_)
 refine W1 (OpT.callS cal45 [] [] [(.bool false)] rfl (ca1 rfl) (code_spec st3 false) ?_)
 rintro v22 w23 ⟨rfl, st24⟩
 refine W1 (OpT.assign (.int .i64 (errn false 40)) rfl ?_)
 refine Wnt ?_
 refine WC.ret <| retQ.one (.int .i64 (errn false 40)) rfl ?_
 exact ⟨_, rfl, by simp [trmB, errn_ok, *], (St.selT [Blk b1 38 [(.string t.var), (.int .i8 (t.val.kind)), (.int .i64 (t.val.num)), (.string t.val.text)]] [] rfl (by decide) st24)⟩

def solidB (t : Trm) : Bool := decide (t.var ≠ ⟨#[95]⟩) && trmB t
theorem solid_spec {Z : Nat → Prop} {w0 w : World} {L : List Res} (st : St Z w0 w L) (t : Trm) : Calls Try.prog 56 #[(.agg #[(.string t.var), (.int .i8 (t.val.kind)), (.int .i64 (t.val.num)), (.string t.val.text)])] w (Ret fun r w' => r = .bool (solidB t) ∧ St Z w0 w' L) := by
 refine calls_of_WC (m := 11) (rs := [.tmp 2]) Try.func56 rfl rfl rfl rfl ?_
 refine Wsr ?_
 refine W1 (OpT.box st (.agg #[(.string t.var), (.int .i8 (t.val.kind)), (.int .i64 (t.val.num)), (.string t.val.text)]) [(.string t.var), (.int .i8 (t.val.kind)), (.int .i64 (t.val.num)), (.string t.val.text)] rfl rfl (fun b1 w2 st3 => ?_))
 refine W1 (OpT.assign (.bool false) rfl ?_)
 refine Wns ?_
 refine W1 (OpT.field 0 ⟨b1, 0, none⟩ ⟨b1, 0, none⟩ tf38_0 rfl rfl ?_)
 refine W1 (OpT.loadS ⟨b1, 0, none⟩ (.string t.var) ta9 rfl (st3.cellB (i := 0) rfl rfl) ?_)
 refine W1 (OpT.sne (t.var) ((⟨#[95]⟩ : ByteArray)) rfl rfl ?_)
 refine W1 (OpT.move (.bool (decide (t.var ≠ (⟨#[95]⟩ : ByteArray)))) rfl ?_)
 by_cases h4 : t.var ≠ (⟨#[95]⟩ : ByteArray)
 ·refine W2 (dj := 6) (bT h4) (OpT.loadA ⟨b1, 0, none⟩ 4 [(.string t.var), (.int .i8 (t.val.kind)), (.int .i64 (t.val.num)), (.string t.val.text)] ta38 ts38 rfl ((st3.rowB (i := 0) rfl).part 0 4) rfl ?_)
  refine W2 (dj := 6) (bT h4) (OpT.callS cal65 [] [] [(.agg #[(.string t.var), (.int .i8 (t.val.kind)), (.int .i64 (t.val.num)), (.string t.val.text)])] rfl (ca1 rfl) (CheckTerm_spec st3 t) ?_)
  rintro v5 w6 ⟨rfl, st7⟩
  refine W2 (dj := 6) (bT h4) (OpT.ieq .i64 (errn (trmB t) 40) (0) rfl rfl ?_)
  refine W1 (OpT.pickT (.bool (decide ((errn (trmB t) 40) = 0))) (bT h4) rfl ?_)
  refine W1 (OpT.assign (.bool (decide ((errn (trmB t) 40) = 0))) rfl ?_)
  refine Wnt ?_
  refine WC.ret <| retQ.one (.bool (decide ((errn (trmB t) 40) = 0))) rfl ?_
  exact ⟨_, rfl, by simp [solidB, errn_ok, *], (St.selT [Blk b1 38 [(.string t.var), (.int .i8 (t.val.kind)), (.int .i64 (t.val.num)), (.string t.val.text)]] [] rfl (by decide) st7)⟩
 refine WL.pass (dj := 6) (c := false) rfl rfl rfl (bF h4) rfl ?_
 refine WL.pass (dj := 6) (c := false) rfl rfl rfl (bF h4) rfl ?_
 refine WL.pass (dj := 6) (c := false) rfl rfl rfl (bF h4) rfl ?_
 refine W1 (OpT.pickF (.bool false) (bF h4) rfl ?_)
 refine W1 (OpT.assign (.bool false) rfl ?_)
 refine Wnt ?_
 refine WC.ret <| retQ.one (.bool false) rfl ?_
 exact ⟨_, rfl, by simp [solidB, errn_ok, *], (St.selT [Blk b1 38 [(.string t.var), (.int .i8 (t.val.kind)), (.int .i64 (t.val.num)), (.string t.val.text)]] [] rfl (by decide) st3)⟩

def arityF (o : Int) : Int := if o = 1 then 1 else if o = 8 then 1 else if o = 9 then 1 else if o = 10 then 1 else if o = 2 then 2 else if o = 3 then 2 else if o = 4 then 2 else if o = 5 then 2 else if o = 6 then 2 else if o = 7 then 2 else -1
theorem arity_spec {Z : Nat → Prop} {w0 w : World} {L : List Res} (st : St Z w0 w L) (o : Int) : Calls Try.prog 74 #[(.int .i8 (o))] w (Ret fun r w' => r = .int .i64 (arityF o) ∧ St Z w0 w' L) := by
 refine calls_of_WC (m := 16) (rs := [.tmp 2]) Try.func74 rfl rfl rfl rfl ?_
 refine Wsr ?_
 refine W1 (OpT.assign (ii 0) rfl ?_)
 refine Wnt ?_
 refine WC.seq ?_
 refine Wsr ?_
 refine W1 (OpT.move (.int .i8 (o)) rfl ?_)
 refine Wnt ?_
 refine WC.block ?_
 refine WC.seq ?_
 refine Wsr ?_
 refine W1 (OpT.ieq .i8 (o) (1) rfl rfl ?_)
 refine W1 (OpT.assign (.bool (decide (o = 1))) rfl ?_)
 refine Wnt ?_
 refine WC.condP (o = 1) rfl (fun h1 => ?_) (fun h1 => ?_)
 ·refine WC.skip ?_
  refine thenQ_n ?_
  refine WC.condT (bT h1) ?_
  refine Wsr ?_
  refine W1 (OpT.assign (ii 1) rfl ?_)
  refine Wnt ?_
  refine WC.ret <| blkQ_r <| thenQ_r <| retQ.one (ii 1) rfl ?_
  exact ⟨_, rfl, by simp [arityF, *], st⟩
 refine Wsr ?_
 refine W1 (OpT.ieq .i8 (o) (8) rfl rfl ?_)
 refine W1 (OpT.assign (.bool (decide (o = 8))) rfl ?_)
 refine Wnt ?_
 refine WC.condP (o = 8) rfl (fun h2 => ?_) (fun h2 => ?_)
 ·refine WC.skip ?_
  refine thenQ_n ?_
  refine WC.condT (bT h2) ?_
  refine Wsr ?_
  refine W1 (OpT.assign (ii 1) rfl ?_)
  refine Wnt ?_
  refine WC.ret <| blkQ_r <| thenQ_r <| retQ.one (ii 1) rfl ?_
  exact ⟨_, rfl, by simp [arityF, *], st⟩
 refine Wsr ?_
 refine W1 (OpT.ieq .i8 (o) (9) rfl rfl ?_)
 refine W1 (OpT.assign (.bool (decide (o = 9))) rfl ?_)
 refine Wnt ?_
 refine WC.condP (o = 9) rfl (fun h3 => ?_) (fun h3 => ?_)
 ·refine WC.skip ?_
  refine thenQ_n ?_
  refine WC.condT (bT h3) ?_
  refine Wsr ?_
  refine W1 (OpT.assign (ii 1) rfl ?_)
  refine Wnt ?_
  refine WC.ret <| blkQ_r <| thenQ_r <| retQ.one (ii 1) rfl ?_
  exact ⟨_, rfl, by simp [arityF, *], st⟩
 refine WC.region ?_
 refine W1 (OpT.ieq .i8 (o) (10) rfl rfl ?_)
 refine W1 (OpT.assign (.bool (decide (o = 10))) rfl ?_)
 refine Wnt ?_
 refine WC.condP (o = 10) rfl (fun h4 => ?_) (fun h4 => ?_)
 ·refine WC.seq ?_
  refine WC.region ?_
  refine W1 (OpT.assign (ii 1) rfl ?_)
  refine Wnt ?_
  refine WC.ret <| blkQ_r <| thenQ_r <| retQ.one (ii 1) rfl ?_
  exact ⟨_, rfl, by simp [arityF, *], st⟩
 refine WC.seq ?_
 refine Wsr ?_
 refine W1 (OpT.ieq .i8 (o) (2) rfl rfl ?_)
 refine W1 (OpT.assign (.bool (decide (o = 2))) rfl ?_)
 refine Wnt ?_
 refine WC.condP (o = 2) rfl (fun h5 => ?_) (fun h5 => ?_)
 ·refine WC.skip ?_
  refine thenQ_n ?_
  refine WC.condT (bT h5) ?_
  refine Wsr ?_
  refine W1 (OpT.assign (ii 2) rfl ?_)
  refine Wnt ?_
  refine WC.ret <| blkQ_r <| thenQ_r <| retQ.one (ii 2) rfl ?_
  exact ⟨_, rfl, by simp [arityF, *], st⟩
 refine Wsr ?_
 refine W1 (OpT.ieq .i8 (o) (3) rfl rfl ?_)
 refine W1 (OpT.assign (.bool (decide (o = 3))) rfl ?_)
 refine Wnt ?_
 refine WC.condP (o = 3) rfl (fun h6 => ?_) (fun h6 => ?_)
 ·refine WC.skip ?_
  refine thenQ_n ?_
  refine WC.condT (bT h6) ?_
  refine Wsr ?_
  refine W1 (OpT.assign (ii 2) rfl ?_)
  refine Wnt ?_
  refine WC.ret <| blkQ_r <| thenQ_r <| retQ.one (ii 2) rfl ?_
  exact ⟨_, rfl, by simp [arityF, *], st⟩
 refine Wsr ?_
 refine W1 (OpT.ieq .i8 (o) (4) rfl rfl ?_)
 refine W1 (OpT.assign (.bool (decide (o = 4))) rfl ?_)
 refine Wnt ?_
 refine WC.condP (o = 4) rfl (fun h7 => ?_) (fun h7 => ?_)
 ·refine WC.skip ?_
  refine thenQ_n ?_
  refine WC.condT (bT h7) ?_
  refine Wsr ?_
  refine W1 (OpT.assign (ii 2) rfl ?_)
  refine Wnt ?_
  refine WC.ret <| blkQ_r <| thenQ_r <| retQ.one (ii 2) rfl ?_
  exact ⟨_, rfl, by simp [arityF, *], st⟩
 refine Wsr ?_
 refine W1 (OpT.ieq .i8 (o) (5) rfl rfl ?_)
 refine W1 (OpT.assign (.bool (decide (o = 5))) rfl ?_)
 refine Wnt ?_
 refine WC.condP (o = 5) rfl (fun h8 => ?_) (fun h8 => ?_)
 ·refine WC.skip ?_
  refine thenQ_n ?_
  refine WC.condT (bT h8) ?_
  refine Wsr ?_
  refine W1 (OpT.assign (ii 2) rfl ?_)
  refine Wnt ?_
  refine WC.ret <| blkQ_r <| thenQ_r <| retQ.one (ii 2) rfl ?_
  exact ⟨_, rfl, by simp [arityF, *], st⟩
 refine Wsr ?_
 refine W1 (OpT.ieq .i8 (o) (6) rfl rfl ?_)
 refine W1 (OpT.assign (.bool (decide (o = 6))) rfl ?_)
 refine Wnt ?_
 refine WC.condP (o = 6) rfl (fun h9 => ?_) (fun h9 => ?_)
 ·refine WC.skip ?_
  refine thenQ_n ?_
  refine WC.condT (bT h9) ?_
  refine Wsr ?_
  refine W1 (OpT.assign (ii 2) rfl ?_)
  refine Wnt ?_
  refine WC.ret <| blkQ_r <| thenQ_r <| retQ.one (ii 2) rfl ?_
  exact ⟨_, rfl, by simp [arityF, *], st⟩
 refine WC.region ?_
 refine W1 (OpT.ieq .i8 (o) (7) rfl rfl ?_)
 refine W1 (OpT.assign (.bool (decide (o = 7))) rfl ?_)
 refine Wnt ?_
 refine WC.condP (o = 7) rfl (fun h10 => ?_) (fun h10 => ?_)
 ·refine WC.seq ?_
  refine WC.region ?_
  refine W1 (OpT.assign (ii 2) rfl ?_)
  refine Wnt ?_
  refine WC.ret <| blkQ_r <| thenQ_r <| retQ.one (ii 2) rfl ?_
  exact ⟨_, rfl, by simp [arityF, *], st⟩
 refine WC.skip ?_
 refine blkQ_n ?_
 refine thenQ_n ?_
 refine Wsr ?_
 refine W1 (OpT.assign (ii (-1)) rfl ?_)
 refine Wnt ?_
 refine WC.ret <| retQ.one (ii (-1)) rfl ?_
 exact ⟨_, rfl, by simp [arityF, *], st⟩

end Go.Ped
