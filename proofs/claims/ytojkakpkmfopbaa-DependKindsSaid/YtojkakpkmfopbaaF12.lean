/- The edges of a body. -/
import Derived.Test.YtojkakpkmfopbaaF11
set_option linter.unusedVariables false
set_option maxRecDepth 20000
namespace Go.Ped
open Go Go.Eng Go.RowKit Go.Proofs

theorem ta45 : aggB Try.prog 45 = some false := by kernel_rfl
theorem tp47 : placesB Try.prog 47 = some [(0, 1), (1, 1), (2, 1), (3, 1)] := by kernel_rfl
theorem tz47 : zeroB Try.prog 47 = some (.agg #[(.string (⟨#[]⟩ : ByteArray)), (.string (⟨#[]⟩ : ByteArray)), (.int .i8 (0)), (.int .i64 (0))]) := by kernel_rfl
theorem ts47 : sizeB Try.prog 47 = some 4 := by kernel_rfl
theorem tf47_2 : fieldB Try.prog 47 2 = some 2 := by kernel_rfl
theorem ts45 : sizeB Try.prog 45 = some 1 := by kernel_rfl
theorem ta24 : aggB Try.prog 24 = some false := by kernel_rfl
theorem ta47 : aggB Try.prog 47 = some true := by kernel_rfl
theorem tu24 : Try.prog.underlying 24 = some (.slice 47) := by kernel_rfl
theorem tb47 : (Try.prog.info? 47).map (·.bytes) = some 48 := by kernel_rfl
theorem ts24 : sizeB Try.prog 24 = some 1 := by kernel_rfl
def ecs (e : Edg) : List Value := [.string e.frm, .string e.to, .int .i8 e.kind, .int .i64 e.rule]
def edgOf (p : ByteArray) (kd i : Int) (x : Ltr) : Edg := ⟨p, x.atom.pred, if x.kind = 2 then 2 else kd, i⟩
abbrev EJ (rb kb ib ob : Nat) (p : ByteArray) (a b : Value) (kd i : Int) (es : List Edg) (lv : Value) : List Res :=
  [Blk rb 31 [.string p, a, b], Blk kb 45 [.int .i8 kd], Blk ib 3 [.int .i64 i], Blk ob 24 [lv], Row 47 4 lv es.length (es.flatMap ecs)]
theorem Edges1_spec {Z : Nat → Prop} {w0 w : World} {L : List Res} {rb kb ib ob : Nat} {lv a b : Value} {r : Rul} {kd i : Int} {es : List Edg} (ha : rAgr.sl Z w0 a r.head) (hb : rLtr.sl Z w0 b r.body) (st : St Z w0 w (EJ rb kb ib ob r.pred a b kd i es lv ++ L)) (he : es.length < 1048576) (x : Ltr) (av lk rk : Value) (hc : rTrm.sl Z w0 av x.atom.args) (hl : rExp.sl Z w0 lk x.left.kids) (hr : rExp.sl Z w0 rk x.right.kids) : Calls Try.prog 13 #[(.agg #[(.int .i8 (x.kind)), (.string x.atom.pred), av, (.int .i8 (x.rel)), (.int .i8 (x.left.op)), (.string x.left.term.var), (.int .i8 (x.left.term.val.kind)), (.int .i64 (x.left.term.val.num)), (.string x.left.term.val.text), lk, (.int .i8 (x.right.op)), (.string x.right.term.var), (.int .i8 (x.right.term.val.kind)), (.int .i64 (x.right.term.val.num)), (.string x.right.term.val.text), rk]), (pt rb 0), (pt kb 0), (pt ib 0), (pt ob 0)] w (Ret fun v w' => v = .tuple #[] ∧ ∃ lv', St Z w0 w' (EJ rb kb ib ob r.pred a b kd i (es ++ [edgOf r.pred kd i x]) lv' ++ L)) := by
 have olv := st.rowOne (i := 4) rfl
 have clv := st.rowCel (i := 4) rfl
 refine calls_of_WC (m := 23) (rs := []) Try.func13 rfl rfl rfl rfl ?_
 refine Wsr ?_
 refine W1 (OpT.box st (.agg #[(.int .i8 (x.kind)), (.string x.atom.pred), av, (.int .i8 (x.rel)), (.int .i8 (x.left.op)), (.string x.left.term.var), (.int .i8 (x.left.term.val.kind)), (.int .i64 (x.left.term.val.num)), (.string x.left.term.val.text), lk, (.int .i8 (x.right.op)), (.string x.right.term.var), (.int .i8 (x.right.term.val.kind)), (.int .i64 (x.right.term.val.num)), (.string x.right.term.val.text), rk]) [(.int .i8 (x.kind)), (.string x.atom.pred), av, (.int .i8 (x.rel)), (.int .i8 (x.left.op)), (.string x.left.term.var), (.int .i8 (x.left.term.val.kind)), (.int .i64 (x.left.term.val.num)), (.string x.left.term.val.text), lk, (.int .i8 (x.right.op)), (.string x.right.term.var), (.int .i8 (x.right.term.val.kind)), (.int .i64 (x.right.term.val.num)), (.string x.right.term.val.text), rk] rfl rfl (fun b1 w2 st3 => ?_))
 refine Wns ?_
 refine W1 (OpT.field 0 ⟨rb, 0, none⟩ ⟨rb, 0, none⟩ tf31_0 rfl rfl ?_)
 refine W1 (OpT.loadS ⟨rb, 0, none⟩ (.string r.pred) ta9 rfl (st3.cellB (i := 1) rfl rfl) ?_)
 refine W1 (OpT.field 1 ⟨b1, 0, none⟩ ⟨b1, 1, none⟩ tf61_1 rfl rfl ?_)
 refine W1 (OpT.field 0 ⟨b1, 1, none⟩ ⟨b1, 1, none⟩ tf54_0 rfl rfl ?_)
 refine W1 (OpT.loadS ⟨b1, 1, none⟩ (.string x.atom.pred) ta9 rfl (st3.cellB (i := 0) rfl rfl) ?_)
 refine W1 (OpT.loadS ⟨kb, 0, none⟩ (.int .i8 (kd)) ta45 rfl (st3.cellB (i := 2) rfl rfl) ?_)
 refine W1 (OpT.loadS ⟨ib, 0, none⟩ (.int .i64 (i)) ta3 rfl (st3.cellB (i := 3) rfl rfl) ?_)
 refine W1 (OpT.build [(0, (.string r.pred)), (1, (.string x.atom.pred)), (2, (.int .i8 (kd))), (3, (.int .i64 (i)))] [(.string r.pred), (.string x.atom.pred), (.int .i8 (kd)), (.int .i64 (i))] tz47 tp47 (mp4 rfl rfl rfl rfl) rfl ?_)
 refine W1 (OpT.alloc st3 (.agg #[ve, ve, (.int .i8 (0)), (ii 0)]) [ve, ve, (.int .i8 (0)), (ii 0)] tz47 rfl (fun b4 w5 st6 => ?_))
 refine WL.stepN (OpT.storeA st6 0 4 [(.string r.pred), (.string x.atom.pred), (.int .i8 (kd)), (.int .i64 (i))] rfl ts47 rfl rfl rfl rfl rfl (fun w7 st8 => ?_))
 refine Wnt ?_
 refine WC.seq ?_
 refine Wsr ?_
 refine W1 (OpT.field 0 ⟨b1, 0, none⟩ ⟨b1, 0, none⟩ tf61_0 rfl rfl ?_)
 refine W1 (OpT.loadS ⟨b1, 0, none⟩ (.int .i8 (x.kind)) ta51 rfl (st8.cellB (i := 1) rfl rfl) ?_)
 refine W1 (OpT.ieq .i8 (x.kind) (2) rfl rfl ?_)
 refine Wnt ?_
 refine WC.condP (x.kind = 2) rfl (fun h9 => ?_) (fun h9 => ?_)
 ·refine WC.region ?_
  refine W1 (OpT.field 2 ⟨b4, 0, none⟩ ⟨b4, 2, none⟩ tf47_2 rfl rfl ?_)
  refine WL.stepN (OpT.storeS st8 0 (.int .i8 (2)) rfl ts45 rfl rfl rfl rfl rfl (fun w10 st11 => ?_))
  refine Wnr ?_
  refine W1 (OpT.loadS ⟨ob, 0, none⟩ lv ta24 rfl (st11.cellB (i := 5) rfl rfl) ?_)
  refine W1 (OpT.loadA ⟨b4, 0, none⟩ 4 [(.string r.pred), (.string x.atom.pred), (.int .i8 (2)), (.int .i64 (i))] ta47 ts47 rfl ((st11.rowB (i := 0) rfl).part 0 4) rfl ?_)
  refine W1 (OpT.buildSlice st11 [(0, (.agg #[(.string r.pred), (.string x.atom.pred), (.int .i8 (2)), (.int .i64 (i))]))] [(.string r.pred), (.string x.atom.pred), (.int .i8 (2)), (.int .i64 (i))] tu24 ts47 tz47 (mp1 rfl) (by kernel_rfl) (by decide) (fun b12 w13 st14 => ?_))
  have st15 : St Z w0 w13 (Blk b12 47 [(.string r.pred), (.string x.atom.pred), (.int .i8 (2)), (.int .i64 (i))] :: Row 47 4 lv es.length (es.flatMap ecs) :: Blk b4 47 [(.string r.pred), (.string x.atom.pred), (.int .i8 (2)), (.int .i64 (i))] :: Blk b1 61 [(.int .i8 (x.kind)), (.string x.atom.pred), av, (.int .i8 (x.rel)), (.int .i8 (x.left.op)), (.string x.left.term.var), (.int .i8 (x.left.term.val.kind)), (.int .i64 (x.left.term.val.num)), (.string x.left.term.val.text), lk, (.int .i8 (x.right.op)), (.string x.right.term.var), (.int .i8 (x.right.term.val.kind)), (.int .i64 (x.right.term.val.num)), (.string x.right.term.val.text), rk] :: Blk rb 31 [(.string r.pred), a, b] :: Blk kb 45 [(.int .i8 (kd))] :: Blk ib 3 [(.int .i64 (i))] :: Blk ob 24 [lv] :: L) := St.selT [Blk b12 47 [(.string r.pred), (.string x.atom.pred), (.int .i8 (2)), (.int .i64 (i))], Blk b4 47 [(.string r.pred), (.string x.atom.pred), (.int .i8 (2)), (.int .i64 (i))], Blk b1 61 [(.int .i8 (x.kind)), (.string x.atom.pred), av, (.int .i8 (x.rel)), (.int .i8 (x.left.op)), (.string x.left.term.var), (.int .i8 (x.left.term.val.kind)), (.int .i64 (x.left.term.val.num)), (.string x.left.term.val.text), lk, (.int .i8 (x.right.op)), (.string x.right.term.var), (.int .i8 (x.right.term.val.kind)), (.int .i64 (x.right.term.val.num)), (.string x.right.term.val.text), rk], Blk rb 31 [(.string r.pred), a, b], Blk kb 45 [(.int .i8 (kd))], Blk ib 3 [(.int .i64 (i))], Blk ob 24 [lv], Row 47 4 lv es.length (es.flatMap ecs)] [0, 7, 1, 2, 3, 4, 5, 6] rfl (by decide) st14
  refine W1 (OpT.append st15 1 tu24 ts47 tz47 rfl tb47 (by decide) rfl rfl rfl rfl (by omega) (by omega) (fun v16 w17 st18 hn19 => ?_))
  have o20 := st18.rowOne (i := 0) rfl
  have c21 := st18.rowCel (i := 0) rfl
  refine WL.stepN (OpT.storeS st18 6 v16 rfl ts24 rfl rfl o20 c21 rfl (fun w22 st23 => ?_))
  refine WL.nil ?_
  refine retQ.none (.inl rfl) ?_
  refine ⟨_, rfl, rfl, v16, ?_⟩
  rw [show edgOf r.pred kd i x = ⟨r.pred, x.atom.pred, 2, i⟩ from by simp [edgOf, *]]
  simp only [EJ, List.flatMap_append, List.length_append, List.length_cons, List.length_nil, List.flatMap_cons, List.flatMap_nil, List.append_nil]
  exact (St.selT [Row 47 4 v16 (es.length + 1) ((es.flatMap ecs) ++ [(.string r.pred), (.string x.atom.pred), (.int .i8 (2)), (.int .i64 (i))]), Blk b4 47 [(.string r.pred), (.string x.atom.pred), (.int .i8 (2)), (.int .i64 (i))], Blk b1 61 [(.int .i8 (x.kind)), (.string x.atom.pred), av, (.int .i8 (x.rel)), (.int .i8 (x.left.op)), (.string x.left.term.var), (.int .i8 (x.left.term.val.kind)), (.int .i64 (x.left.term.val.num)), (.string x.left.term.val.text), lk, (.int .i8 (x.right.op)), (.string x.right.term.var), (.int .i8 (x.right.term.val.kind)), (.int .i64 (x.right.term.val.num)), (.string x.right.term.val.text), rk], Blk rb 31 [(.string r.pred), a, b], Blk kb 45 [(.int .i8 (kd))], Blk ib 3 [(.int .i64 (i))], Blk ob 24 [v16]] [3, 4, 5, 6, 0] rfl (by decide) st23)
 refine WC.skip ?_
 refine thenQ_n ?_
 refine WC.region ?_
 refine W1 (OpT.loadS ⟨ob, 0, none⟩ lv ta24 rfl (st8.cellB (i := 5) rfl rfl) ?_)
 refine W1 (OpT.loadA ⟨b4, 0, none⟩ 4 [(.string r.pred), (.string x.atom.pred), (.int .i8 (kd)), (.int .i64 (i))] ta47 ts47 rfl ((st8.rowB (i := 0) rfl).part 0 4) rfl ?_)
 refine W1 (OpT.buildSlice st8 [(0, (.agg #[(.string r.pred), (.string x.atom.pred), (.int .i8 (kd)), (.int .i64 (i))]))] [(.string r.pred), (.string x.atom.pred), (.int .i8 (kd)), (.int .i64 (i))] tu24 ts47 tz47 (mp1 rfl) (by kernel_rfl) (by decide) (fun b24 w25 st26 => ?_))
 have st27 : St Z w0 w25 (Blk b24 47 [(.string r.pred), (.string x.atom.pred), (.int .i8 (kd)), (.int .i64 (i))] :: Row 47 4 lv es.length (es.flatMap ecs) :: Blk b4 47 [(.string r.pred), (.string x.atom.pred), (.int .i8 (kd)), (.int .i64 (i))] :: Blk b1 61 [(.int .i8 (x.kind)), (.string x.atom.pred), av, (.int .i8 (x.rel)), (.int .i8 (x.left.op)), (.string x.left.term.var), (.int .i8 (x.left.term.val.kind)), (.int .i64 (x.left.term.val.num)), (.string x.left.term.val.text), lk, (.int .i8 (x.right.op)), (.string x.right.term.var), (.int .i8 (x.right.term.val.kind)), (.int .i64 (x.right.term.val.num)), (.string x.right.term.val.text), rk] :: Blk rb 31 [(.string r.pred), a, b] :: Blk kb 45 [(.int .i8 (kd))] :: Blk ib 3 [(.int .i64 (i))] :: Blk ob 24 [lv] :: L) := St.selT [Blk b24 47 [(.string r.pred), (.string x.atom.pred), (.int .i8 (kd)), (.int .i64 (i))], Blk b4 47 [(.string r.pred), (.string x.atom.pred), (.int .i8 (kd)), (.int .i64 (i))], Blk b1 61 [(.int .i8 (x.kind)), (.string x.atom.pred), av, (.int .i8 (x.rel)), (.int .i8 (x.left.op)), (.string x.left.term.var), (.int .i8 (x.left.term.val.kind)), (.int .i64 (x.left.term.val.num)), (.string x.left.term.val.text), lk, (.int .i8 (x.right.op)), (.string x.right.term.var), (.int .i8 (x.right.term.val.kind)), (.int .i64 (x.right.term.val.num)), (.string x.right.term.val.text), rk], Blk rb 31 [(.string r.pred), a, b], Blk kb 45 [(.int .i8 (kd))], Blk ib 3 [(.int .i64 (i))], Blk ob 24 [lv], Row 47 4 lv es.length (es.flatMap ecs)] [0, 7, 1, 2, 3, 4, 5, 6] rfl (by decide) st26
 refine W1 (OpT.append st27 1 tu24 ts47 tz47 rfl tb47 (by decide) rfl rfl rfl rfl (by omega) (by omega) (fun v28 w29 st30 hn31 => ?_))
 have o32 := st30.rowOne (i := 0) rfl
 have c33 := st30.rowCel (i := 0) rfl
 refine WL.stepN (OpT.storeS st30 6 v28 rfl ts24 rfl rfl o32 c33 rfl (fun w34 st35 => ?_))
 refine WL.nil ?_
 refine retQ.none (.inl rfl) ?_
 refine ⟨_, rfl, rfl, v28, ?_⟩
 rw [show edgOf r.pred kd i x = ⟨r.pred, x.atom.pred, kd, i⟩ from by simp [edgOf, *]]
 simp only [EJ, List.flatMap_append, List.length_append, List.length_cons, List.length_nil, List.flatMap_cons, List.flatMap_nil, List.append_nil]
 exact (St.selT [Row 47 4 v28 (es.length + 1) ((es.flatMap ecs) ++ [(.string r.pred), (.string x.atom.pred), (.int .i8 (kd)), (.int .i64 (i))]), Blk b4 47 [(.string r.pred), (.string x.atom.pred), (.int .i8 (kd)), (.int .i64 (i))], Blk b1 61 [(.int .i8 (x.kind)), (.string x.atom.pred), av, (.int .i8 (x.rel)), (.int .i8 (x.left.op)), (.string x.left.term.var), (.int .i8 (x.left.term.val.kind)), (.int .i64 (x.left.term.val.num)), (.string x.left.term.val.text), lk, (.int .i8 (x.right.op)), (.string x.right.term.var), (.int .i8 (x.right.term.val.kind)), (.int .i64 (x.right.term.val.num)), (.string x.right.term.val.text), rk], Blk rb 31 [(.string r.pred), a, b], Blk kb 45 [(.int .i8 (kd))], Blk ib 3 [(.int .i64 (i))], Blk ob 24 [v28]] [3, 4, 5, 6, 0] rfl (by decide) st35)

end Go.Ped
