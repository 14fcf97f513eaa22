/-
  The program's data as plain Lean structures, and how they lie in memory.
-/
import Derived.Test.YtojkakpkmfopbaaEngE
namespace Go.Ped
open Go.Eng

structure Val where
  kind : Int
  num : Int
  text : ByteArray
  deriving DecidableEq
structure Trm where
  var : ByteArray
  val : Val
  deriving DecidableEq
inductive Exp where
  | mk (op : Int) (term : Trm) (kids : List Exp)
def Exp.op : Exp → Int | .mk o _ _ => o
def Exp.term : Exp → Trm | .mk _ t _ => t
def Exp.kids : Exp → List Exp | .mk _ _ k => k
structure Atm where
  pred : ByteArray
  args : List Trm
structure Ltr where
  kind : Int
  atom : Atm
  rel : Int
  left : Exp
  right : Exp
structure Agr where
  agg : Int
  term : Trm
structure Rul where
  pred : ByteArray
  head : List Agr
  body : List Ltr
structure Edg where
  frm : ByteArray
  to : ByteArray
  kind : Int
  rule : Int
  deriving DecidableEq

def vcs (v : Val) : List Value := [.int .i8 v.kind, .int .i64 v.num, .string v.text]
def tcs (t : Trm) : List Value := .string t.var :: vcs t.val
def rVal : Rl Val where
  sz := 3
  R _ _ cs x := cs = [.int .i8 x.kind, .int .i64 x.num, .string x.text]
  len h := by rw [h]; rfl
  mono h _ _ := h
def rTrm : Rl Trm where
  sz := 4
  R _ _ cs x := cs = [.string x.var, .int .i8 x.val.kind, .int .i64 x.val.num, .string x.val.text]
  len h := by rw [h]; rfl
  mono h _ _ := h
def rAgr : Rl Agr where
  sz := 5
  R _ _ cs x := cs = [.int .i8 x.agg, .string x.term.var, .int .i8 x.term.val.kind, .int .i64 x.term.val.num, .string x.term.val.text]
  len h := by rw [h]; rfl
  mono h _ _ := h
def rEdg : Rl Edg where
  sz := 4
  R _ _ cs x := cs = [.string x.frm, .string x.to, .int .i8 x.kind, .int .i64 x.rule]
  len h := by rw [h]; rfl
  mono h _ _ := h
/-- An expression nested at most n deep. -/
def rExpN : Nat → Rl Exp
  | 0 => { sz := 6, R := fun _ _ _ _ => False, len := fun h => h.elim, mono := fun h _ _ => h }
  | n + 1 => {
    sz := 6
    R := fun Z w cs x => ∃ kv, cs = [.int .i8 x.op, .string x.term.var, .int .i8 x.term.val.kind, .int .i64 x.term.val.num, .string x.term.val.text, kv] ∧ (rExpN n).sl Z w kv x.kids
    len := by rintro _ _ _ _ ⟨kv, rfl, _⟩; rfl
    mono := by rintro _ _ _ _ _ _ ⟨kv, rfl, h⟩ hz hw; exact ⟨kv, rfl, Rl.sl_mono h hz hw⟩ }
theorem rExpN_sz (n : Nat) : (rExpN n).sz = 6 := by cases n <;> rfl
theorem rExpN_up {Z : Nat → Prop} {w : World} : ∀ {n : Nat} {cs : List Value} {x : Exp}, (rExpN n).R Z w cs x → (rExpN (n + 1)).R Z w cs x
  | 0, _, _, h => h.elim
  | n + 1, cs, x, ⟨kv, e, A, c, h1, h2, h3⟩ => ⟨kv, e, A, c, h1, h2, fun i y hy => by
      obtain ⟨ad, cs, e, hr, hR⟩ := h3 i y hy
      exact ⟨ad, cs, e, by rw [rExpN_sz] at hr ⊢; exact hr, rExpN_up hR⟩⟩
theorem rExpN_le {Z : Nat → Prop} {w : World} {n m : Nat} {cs : List Value} {x : Exp} (h : n ≤ m) (hR : (rExpN n).R Z w cs x) : (rExpN m).R Z w cs x := by
  induction h with
  | refl => exact hR
  | step _ ih => exact rExpN_up ih
/-- An expression, by its own depth. -/
def rExp : Rl Exp where
  sz := 6
  R Z w cs x := ∃ kv, cs = [.int .i8 x.op, .string x.term.var, .int .i8 x.term.val.kind, .int .i64 x.term.val.num, .string x.term.val.text, kv] ∧ ∃ n, (rExpN n).sl Z w kv x.kids
  len := by rintro _ _ _ _ ⟨kv, rfl, _⟩; rfl
  mono := by rintro _ _ _ _ _ _ ⟨kv, rfl, n, h⟩ hz hw; exact ⟨kv, rfl, n, Rl.sl_mono h hz hw⟩
theorem rExp_sl {Z : Nat → Prop} {w : World} {n : Nat} {v : Value} {xs : List Exp} (h : (rExpN n).sl Z w v xs) : rExp.sl Z w v xs := by
  obtain ⟨A, c, h1, h2, h3⟩ := h
  refine ⟨A, c, h1, h2, fun i y hy => ?_⟩
  obtain ⟨ad, cs, e, hr, hR⟩ := h3 i y hy
  rw [rExpN_sz] at hr
  refine ⟨ad, cs, e, hr, ?_⟩
  cases n with
  | zero => exact hR.elim
  | succ n =>
    obtain ⟨kv, e, hk⟩ := hR
    exact ⟨kv, e, n, hk⟩
theorem rExp_kids {Z : Nat → Prop} {w : World} {cs : List Value} {x : Exp} (h : rExp.R Z w cs x) : ∃ kv, cs = [.int .i8 x.op, .string x.term.var, .int .i8 x.term.val.kind, .int .i64 x.term.val.num, .string x.term.val.text, kv] ∧ rExp.sl Z w kv x.kids := by
  obtain ⟨kv, e, n, hk⟩ := h
  exact ⟨kv, e, rExp_sl hk⟩
def rLtr : Rl Ltr where
  sz := 16
  R Z w cs x := ∃ av lk rk, cs = [.int .i8 x.kind, .string x.atom.pred, av, .int .i8 x.rel, .int .i8 x.left.op, .string x.left.term.var, .int .i8 x.left.term.val.kind, .int .i64 x.left.term.val.num, .string x.left.term.val.text, lk,
      .int .i8 x.right.op, .string x.right.term.var, .int .i8 x.right.term.val.kind, .int .i64 x.right.term.val.num, .string x.right.term.val.text, rk] ∧ rTrm.sl Z w av x.atom.args ∧ rExp.sl Z w lk x.left.kids ∧ rExp.sl Z w rk x.right.kids
  len := by rintro _ _ _ _ ⟨_, _, _, rfl, _⟩; rfl
  mono := by rintro _ _ _ _ _ _ ⟨a, b, c, rfl, h1, h2, h3⟩ hz hw; exact ⟨a, b, c, rfl, Rl.sl_mono h1 hz hw, Rl.sl_mono h2 hz hw, Rl.sl_mono h3 hz hw⟩
def rRul : Rl Rul where
  sz := 3
  R Z w cs x := ∃ hv bv, cs = [.string x.pred, hv, bv] ∧ rAgr.sl Z w hv x.head ∧ rLtr.sl Z w bv x.body
  len := by rintro _ _ _ _ ⟨_, _, rfl, _⟩; rfl
  mono := by rintro _ _ _ _ _ _ ⟨a, b, rfl, h1, h2⟩ hz hw; exact ⟨a, b, rfl, Rl.sl_mono h1 hz hw, Rl.sl_mono h2 hz hw⟩
end Go.Ped
