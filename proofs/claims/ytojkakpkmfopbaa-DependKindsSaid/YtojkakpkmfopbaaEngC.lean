/-
  The engine, part C: the operations.
-/
import Derived.Test.YtojkakpkmfopbaaEngB
namespace Go.Eng
open Go.RowKit

def aggB (P : Program) (t : TypeId) : Option Bool := (P.underlying t).map fun d => match d with | .struct _ => true | .array _ _ => true | _ => false
def sizeB (P : Program) (t : TypeId) : Option Nat := (P.info? t).map (·.size)
def zeroB (P : Program) (t : TypeId) : Option Value := (P.info? t).bind (·.zero)
def fieldB (P : Program) (s f : Nat) : Option Nat :=
  match P.underlying s with
  | some (.struct fs) => match fs[f]? with
    | some fd => match sizeB P fd.type with
      | some (_ + 1) => some fd.offset
      | _ => none
    | none => none
  | _ => none
def fieldT (P : Program) (s f : Nat) : Option (Nat × Nat) :=
  match P.underlying s with
  | some (.struct fs) => fs[f]?.map (fun fd => (fd.type, fd.offset))
  | _ => none

section
variable {P : Program} {w : World}

theorem run_typeInfo {t : TypeId} {i : TypeInfo} (h : P.info? t = some i) : (typeInfo t).run P w = .ok i w := by simp [typeInfo, h]
theorem run_sizeOf {t n : Nat} (h : sizeB P t = some n) : (sizeOf t).run P w = .ok n w := by
  obtain ⟨i, hi, rfl⟩ := Option.map_eq_some_iff.1 h
  simp [sizeOf, run_typeInfo hi]
theorem run_zeroValue {t : Nat} {v : Value} (h : zeroB P t = some v) : (zeroValue t).run P w = .ok v w := by
  obtain ⟨i, hi, hz⟩ := Option.bind_eq_some_iff.1 h
  simp [zeroValue, run_typeInfo hi, hz]
theorem run_isAgg {t : Nat} {b : Bool} (h : aggB P t = some b) : (isAgg t).run P w = .ok b w := by
  obtain ⟨d, hd, rfl⟩ := Option.map_eq_some_iff.1 h
  unfold isAgg
  simp only [Sem.run_bind, run_underlying hd, Result.andThen_ok]
  cases d <;> rfl
theorem run_loadVarS {t : Nat} {ad : Addr} {v : Value} (h : aggB P t = some false) (hc : w.cell? ad = some v) : (loadVar t ad).run P w = .ok v w := by
  simp [loadVar, run_isAgg h, hc]
theorem run_loadVarA {t n : Nat} {ad : Addr} {cs : List Value} (h : aggB P t = some true) (hs : sizeB P t = some n) (hr : RowAt w ad cs) (hl : cs.length = n) : (loadVar t ad).run P w = .ok (.agg cs.toArray) w := by
  subst hl
  simp [loadVar, run_isAgg h, run_sizeOf hs, run_loadCells_list w ad cs hr]
theorem RowAt.part {ad : Addr} {cs : List Value} (h : RowAt w ad cs) (k n : Nat) : RowAt w (ad.add k) ((cs.drop k).take n) := by
  intro j u hu
  rw [List.getElem?_take] at hu
  split at hu
  · rw [List.getElem?_drop] at hu
    have := h (k + j) u hu
    unfold Addr.add at *
    by_cases hk : k = 0
    · subst hk; simpa using this
    · by_cases hj : j = 0
      · subst hj; simpa [hk] using this
      · simp only [hk, hj, if_false]
        rw [if_neg (by omega)] at this
        rw [Nat.add_assoc]
        exact this
  · cases hu
theorem add_add (ad : Addr) (a b : Nat) : (ad.add a).add b = ad.add (a + b) := by
  unfold Addr.add
  by_cases ha : a = 0 <;> by_cases hb : b = 0 <;> simp [ha, hb, Nat.add_assoc]
end

section
variable {P : Program} {ρ : Env} {w : World} {K : Value → World → Prop} {d : Option Tmp} {ty : TypeId} {pos : String} {after : Array Edge} {gd : Option (Nat × Bool)}
variable {Z : Nat → Prop} {w0 : World} {L : List Res}

theorem St.cellB (st : St Z w0 w L) {i b off : Nat} {t : TypeId} {cs : List Value} {v : Value} (hi : L[i]? = some (Blk b t cs)) (hv : cs[off]? = some v) : w.cell? ⟨b, off, none⟩ = some v := by
  rw [cell_of_row w b off cs.toArray t (0, 0) (st.blk hi)]
  simpa using hv
theorem St.rowB (st : St Z w0 w L) {i b : Nat} {t : TypeId} {cs : List Value} (hi : L[i]? = some (Blk b t cs)) : RowAt w ⟨b, 0, none⟩ cs := RowAt.blk (st.blk hi)
theorem RowZ.cell {ad : Addr} {cs : List Value} (h : RowZ Z w0 ad cs) (st : St Z w0 w L) {j : Nat} {v : Value} (hv : cs[j]? = some v) : w.cell? (ad.add j) = some v := h.at st j v hv

theorem OpT.move {x : Operand} (v : Value) (hv : evO ρ x = v) (hK : K v w) : OpT P ⟨d, .move x, ty, pos, after, gd⟩ ρ w K :=
  OpT.val (v := v) (by show Sem.run P (pure (Next.value (evO ρ x))) w = _; rw [hv]; rfl) hK
theorem OpT.assign {x : Operand} (v : Value) (hv : evO ρ x = v) (hK : K v w) : OpT P ⟨d, .assign x, ty, pos, after, gd⟩ ρ w K :=
  OpT.val (v := v) (by show Sem.run P (pure (Next.value (evO ρ x))) w = _; rw [hv]; rfl) hK
theorem OpT.pickT {c a b : Operand} (v : Value) (hc : evO ρ c = .bool true) (hv : evO ρ a = v) (hK : K v w) : OpT P ⟨d, .pick c a b, ty, pos, after, gd⟩ ρ w K :=
  OpT.val (v := v) (by simp [execOp, hc, asBool, hv]) hK
theorem OpT.pickF {c a b : Operand} (v : Value) (hc : evO ρ c = .bool false) (hv : evO ρ b = v) (hK : K v w) : OpT P ⟨d, .pick c a b, ty, pos, after, gd⟩ ρ w K :=
  OpT.val (v := v) (by simp [execOp, hc, asBool, hv]) hK
theorem OpT.box {e : TypeId} {x : Operand} (st : St Z w0 w L) (v : Value) (cs : List Value) (hv : evO ρ x = v) (hcs : v.cells.toList = cs) (hK : ∀ b w', St Z w0 w' (Blk b e cs :: L) → K (.pointer (some ⟨b, 0, none⟩)) w') : OpT P ⟨d, .box e x, ty, pos, after, gd⟩ ρ w K := by
  subst hcs
  have hst := st.alloc e v.cells.toList
  exact OpT.val (v := .pointer (some ⟨w.heap.size, 0, none⟩)) (w' := w.alloc (.cells v.cells.toList.toArray e)) (by simp [execOp, Instr.box, newVar, newRow, hv]) (hK _ _ hst)
theorem OpT.alloc {e : TypeId} (st : St Z w0 w L) (z : Value) (cs : List Value) (hz : zeroB P e = some z) (hcs : z.cells.toList = cs) (hK : ∀ b w', St Z w0 w' (Blk b e cs :: L) → K (.pointer (some ⟨b, 0, none⟩)) w') : OpT P ⟨d, .alloc e, ty, pos, after, gd⟩ ρ w K := by
  subst hcs
  have hst := st.alloc e z.cells.toList
  exact OpT.val (v := .pointer (some ⟨w.heap.size, 0, none⟩)) (w' := w.alloc (.cells z.cells.toList.toArray e)) (by simp [execOp, Instr.alloc, newVar, newRow, run_zeroValue hz]) (hK _ _ hst)
theorem OpT.loadS {t : TypeId} {x : Operand} (ad : Addr) (v : Value) (h : aggB P t = some false) (hx : evO ρ x = .pointer (some ad)) (hc : w.cell? ad = some v) (hK : K v w) : OpT P ⟨d, .load t x, ty, pos, after, gd⟩ ρ w K :=
  OpT.val (v := v) (by simp [execOp, Instr.loadAt, Instr.sureAddr, hx, run_loadVarS h hc]) hK
theorem OpT.loadA {t : TypeId} {x : Operand} (ad : Addr) (n : Nat) (cs : List Value) (h : aggB P t = some true) (hs : sizeB P t = some n) (hx : evO ρ x = .pointer (some ad)) (hr : RowAt w ad cs) (hl : cs.length = n) (hK : K (.agg cs.toArray) w) : OpT P ⟨d, .load t x, ty, pos, after, gd⟩ ρ w K :=
  OpT.val (v := .agg cs.toArray) (by simp [execOp, Instr.loadAt, Instr.sureAddr, hx, run_loadVarA h hs hr hl]) hK

def splice (cs : List Value) (o : Nat) (vs : List Value) : List Value := cs.take o ++ vs ++ cs.drop (o + vs.length)
theorem splice_cons (cs : List Value) (o : Nat) (v : Value) (vs : List Value) (h : o < cs.length) : splice (cs.set o v) (o + 1) vs = splice cs o (v :: vs) := by
  unfold splice
  have h1 : (cs.set o v).take (o + 1) = cs.take o ++ [v] := by
    rw [List.take_set, List.take_succ_eq_append_getElem h, List.set_append_right _ _ (by simp; omega)]
    simp [Nat.min_eq_left (Nat.le_of_lt h)]
  have h2 : (cs.set o v).drop (o + 1 + vs.length) = cs.drop (o + (v :: vs).length) := by
    rw [List.drop_set, if_pos (by omega)]
    congr 1
    simp; omega
  rw [h1, h2]; simp
theorem splice_nil (cs : List Value) (o : Nat) : splice cs o [] = cs := by simp [splice]

theorem run_store1 (st : St Z w0 w L) {i b off : Nat} {t : TypeId} {cs : List Value} (hi : L[i]? = some (Blk b t cs)) (v : Value) (h1 : v.oneCell' = true) (ho : off < cs.length) :
    (store ⟨b, off, none⟩ v).run P w = .ok () (w.setCell ⟨b, off, none⟩ v) := by
  have hc : w.cell? ⟨b, off, none⟩ = some cs[off] := st.cellB hi (List.getElem?_eq_getElem ho)
  have hf : w.frozen? ⟨b, off, none⟩ = false := frozen_of_row w b off cs.toArray t (st.blk hi)
  rw [run_store P w _ v .plain h1]
  simp [hc, hf]
theorem run_storeCells {t : TypeId} {b : Nat} {k : Nat} : ∀ (vs : List Value) (w : World) (L : List Res) (o j : Nat) (cs : List Value), St Z w0 w L → L[k]? = some (Blk b t cs) → (∀ v ∈ vs, v.oneCell' = true) → o + j + vs.length ≤ cs.length →
    ∃ w', (storeCells ⟨b, o, none⟩ vs j).run P w = .ok () w' ∧ St Z w0 w' (L.set k (Blk b t (splice cs (o + j) vs)))
  | [], w, L, o, j, cs, st, hk, _, _ => ⟨w, rfl, by
      rw [splice_nil]
      have hlt : k < L.length := (List.getElem?_eq_some_iff.1 hk).1
      have : L.set k (Blk b t cs) = L := by
        rw [List.getElem?_eq_getElem hlt] at hk
        rw [← Option.some.inj hk]
        exact List.set_getElem_self hlt
      rw [this]; exact st⟩
  | v :: vs, w, L, o, j, cs, st, hk, h1, hl => by
    have hlt : k < L.length := (List.getElem?_eq_some_iff.1 hk).1
    have hoj : o + j < cs.length := by simp at hl; omega
    have hr := run_store1 (P := P) st hk v (h1 v (by simp)) hoj
    have st' := st.store (off := o + j) hk v
    obtain ⟨w', hw, hst⟩ := run_storeCells vs _ _ o (j + 1) (cs.set (o + j) v) st' (List.getElem?_set_self hlt) (fun u hu => h1 u (by simp [hu])) (by simp at hl ⊢; omega)
    refine ⟨w', ?_, ?_⟩
    · rw [storeCells]
      simp only [Addr.add_lit, Sem.run_bind, hr, Result.andThen_ok]
      exact hw
    · rw [List.set_set, show o + (j + 1) = o + j + 1 from by omega, splice_cons _ _ _ _ hoj] at hst
      exact hst

theorem OpT.storeS {t tb : TypeId} {a x : Operand} (st : St Z w0 w L) {b off : Nat} {cs : List Value} (i : Nat) (v : Value) (hi : L[i]? = some (Blk b tb cs)) (hs : sizeB P t = some 1) (ha : evO ρ a = .pointer (some ⟨b, off, none⟩)) (hx : evO ρ x = v) (h1 : v.oneCell' = true) (hcs : v.cells = #[v]) (ho : Nat.blt off cs.length = true)
    (hK : ∀ w', St Z w0 w' (L.set i (Blk b tb (cs.set off v))) → K undef w') : OpT P ⟨d, .store t a x, ty, pos, after, gd⟩ ρ w K := by
  have hr := run_store1 (P := P) st hi v h1 (by simpa [Nat.blt_eq] using ho)
  refine OpT.skp (w' := w.setCell ⟨b, off, none⟩ v) ?_ (hK _ (st.store hi v))
  simp only [execOp, Instr.storeAt, Instr.sureAddr, ha, hx, storeVar, Sem.run_bind, Sem.run_pure, Result.andThen_ok, run_sizeOf hs, hcs]
  simp [storeCells, Addr.add_zero', hr]
theorem OpT.storeA {t tb : TypeId} {a x : Operand} (st : St Z w0 w L) {b off : Nat} {cs : List Value} (i n : Nat) (vs : List Value) (hi : L[i]? = some (Blk b tb cs)) (hs : sizeB P t = some n) (ha : evO ρ a = .pointer (some ⟨b, off, none⟩)) (hx : evO ρ x = .agg vs.toArray) (h1 : vs.all Value.oneCell' = true) (hl : vs.length = n) (ho : Nat.ble (off + vs.length) cs.length = true)
    (hK : ∀ w', St Z w0 w' (L.set i (Blk b tb (splice cs off vs))) → K undef w') : OpT P ⟨d, .store t a x, ty, pos, after, gd⟩ ρ w K := by
  subst hl
  obtain ⟨w', hr, hst⟩ := run_storeCells (P := P) vs w L off 0 cs st hi (by simpa using h1) (by simpa [Nat.ble_eq] using ho)
  refine OpT.skp (w' := w') ?_ (hK _ hst)
  simp only [execOp, Instr.storeAt, Instr.sureAddr, ha, hx, storeVar, Sem.run_bind, Sem.run_pure, Result.andThen_ok, run_sizeOf hs, Value.cells]
  simp [hr]
theorem run_fieldAt {s f off : Nat} {ad : Addr} (h : fieldB P s f = some off) : (Instr.fieldAt s (.pointer (some ad)) f).run P w = .ok (.pointer (some (ad.add off))) w := by
  unfold fieldB at h
  split at h
  · rename_i fs hs
    split at h
    · rename_i fd hf
      split at h
      · rename_i m hm
        cases h
        unfold Instr.fieldAt
        simp only [Sem.run_bind, run_underlying hs, Result.andThen_ok, hf, Instr.sureAddr, Sem.run_pure, fieldPlace, run_sizeOf hm]
        simp
      · cases h
    · cases h
  · cases h
theorem OpT.field {s f : Nat} {x : Operand} (off : Nat) (ad p : Addr) (h : fieldB P s f = some off) (hx : evO ρ x = .pointer (some ad)) (hp : ad.add off = p) (hK : K (.pointer (some p)) w) : OpT P ⟨d, .fieldAddr s x f, ty, pos, after, gd⟩ ρ w K := by
  subst hp
  exact OpT.val (v := .pointer (some (ad.add off))) (by simp only [execOp, hx, Sem.run_bind, run_fieldAt h, Result.andThen_ok, Sem.run_pure]) hK
theorem OpT.idx {t e : Nat} {x ix : Operand} (sz : Nat) (ad p : Addr) (n c : Nat) (kd : IntKind) (i : Int) (hu : P.underlying t = some (.slice e)) (hs : sizeB P e = some sz) (hx : evO ρ x = .slice (some ad) n c) (hi : evO ρ ix = .int kd i) (h0 : 0 ≤ i) (hlt : i < n) (hp : ad.add (i.toNat * sz) = p)
    (hK : K (.pointer (some p)) w) : OpT P ⟨d, .indexAddr t x ix, ty, pos, after, gd⟩ ρ w K := by
  subst hp
  exact OpT.val (v := .pointer (some (ad.add (i.toNat * sz)))) (by simp [execOp, hx, hi, Instr.indexAt, asIntOf, run_underlying hu, h0, hlt, run_sizeOf hs]) hK
theorem OpT.lenS {t e : Nat} {x : Operand} {tys : Array TypeId} (A : Option Addr) (n c : Nat) (ht : tys[0]? = some t) (hu : P.underlying t = some (.slice e)) (hx : evO ρ x = .slice A n c) (hK : K (.int .i64 n) w) :
    OpT P ⟨d, .call ⟨.builtin .len, #[x], tys⟩, ty, pos, after, gd⟩ ρ w K :=
  OpT.val (v := .int .i64 n) (by simp [execOp, resolve, invoke, builtin, Builtin.len_, hx, ht, run_underlying hu, goInt]) hK
theorem OpT.lenStr {t : Nat} {x : Operand} {tys : Array TypeId} (s : ByteArray) (ht : tys[0]? = some t) (hu : P.underlying t = some .string) (hx : evO ρ x = .string s) (hK : K (.int .i64 s.size) w) :
    OpT P ⟨d, .call ⟨.builtin .len, #[x], tys⟩, ty, pos, after, gd⟩ ρ w K :=
  OpT.val (v := .int .i64 s.size) (by simp [execOp, resolve, invoke, builtin, Builtin.len_, hx, ht, run_underlying hu, goInt]) hK
theorem OpT.extract {x : Operand} {i : Nat} (vs : List Value) (v : Value) (hx : evO ρ x = .tuple vs.toArray) (hv : vs[i]? = some v) (hK : K v w) : OpT P ⟨d, .extract x i, ty, pos, after, gd⟩ ρ w K :=
  OpT.val (v := v) (by simp [execOp, Instr.extract, hx, hv]) hK
theorem OpT.not {t : TypeId} {x : Operand} (b : Bool) (hx : evO ρ x = .bool b) (hK : K (.bool (!b)) w) : OpT P ⟨d, .unOp .not t x, ty, pos, after, gd⟩ ρ w K :=
  OpT.val (v := .bool (!b)) (by simp [execOp, Op.unary, hx]) hK
theorem OpT.makeFunc {fn : Fn} {fi ca : Array Operand} (f1 c1 : List Value) (h1 : fi.map (evO ρ) = f1.toArray) (h2 : ca.map (evO ρ) = c1.toArray) (hK : K (.func fn f1.toArray c1.toArray) w) : OpT P ⟨d, .makeFunc fn fi ca, ty, pos, after, gd⟩ ρ w K :=
  OpT.val (v := .func fn f1.toArray c1.toArray) (by simp [execOp, Instr.makeFunc, h1, h2]) hK
theorem OpT.makeIface {t : TypeId} {x : Operand} (v : Value) (hb : (match P.underlying t with | some (.interface _) => false | some _ => true | none => false) = true) (hx : evO ρ x = v) (hK : K (.iface t v) w) : OpT P ⟨d, .makeInterface t x, ty, pos, after, gd⟩ ρ w K := by
  refine OpT.val (v := .iface t v) ?_ hK
  split at hb
  · cases hb
  · rename_i dd hne hd
    simp only [execOp, Instr.makeInterface, hx, Sem.run_bind, run_underlying hd, Result.andThen_ok]
    cases dd <;> first | rfl | exact absurd rfl (hne _)
  · cases hb
theorem OpT.nilc {x : Operand} (ad : Addr) (hx : evO ρ x = .pointer (some ad)) (hK : K (.pointer (some ad)) w) : OpT P ⟨d, .nilCheck x, ty, pos, after, gd⟩ ρ w K :=
  OpT.val (v := .pointer (some ad)) (by simp [execOp, hx]) hK

/-! two operands -/
variable {t : TypeId} {x y : Operand} {yt : TypeId}
theorem OpT.ilt (k : IntKind) (a b : Int) (hx : evO ρ x = .int k a) (hy : evO ρ y = .int k b) (hK : K (.bool (decide (a < b))) w) : OpT P ⟨d, .binOp .lss t x y yt, ty, pos, after, gd⟩ ρ w K :=
  OpT.val (v := .bool (decide (a < b))) (by simp only [execOp, hx, hy]; simp [eqGuard_at_int, binOp_lss]) hK
theorem OpT.ile (k : IntKind) (a b : Int) (hx : evO ρ x = .int k a) (hy : evO ρ y = .int k b) (hK : K (.bool (decide (a ≤ b))) w) : OpT P ⟨d, .binOp .leq t x y yt, ty, pos, after, gd⟩ ρ w K :=
  OpT.val (v := .bool (decide (a ≤ b))) (by simp only [execOp, hx, hy]; simp [eqGuard_at_int, binOp_leq]) hK
theorem OpT.igt (k : IntKind) (a b : Int) (hx : evO ρ x = .int k a) (hy : evO ρ y = .int k b) (hK : K (.bool (decide (b < a))) w) : OpT P ⟨d, .binOp .gtr t x y yt, ty, pos, after, gd⟩ ρ w K :=
  OpT.val (v := .bool (decide (b < a))) (by simp only [execOp, hx, hy]; simp [eqGuard_at_int, binOp_gtr]) hK
theorem OpT.ige (k : IntKind) (a b : Int) (hx : evO ρ x = .int k a) (hy : evO ρ y = .int k b) (hK : K (.bool (decide (b ≤ a))) w) : OpT P ⟨d, .binOp .geq t x y yt, ty, pos, after, gd⟩ ρ w K :=
  OpT.val (v := .bool (decide (b ≤ a))) (by simp only [execOp, hx, hy]; simp [eqGuard_at_int, binOp_geq]) hK
theorem OpT.ieq (k : IntKind) (a b : Int) (hx : evO ρ x = .int k a) (hy : evO ρ y = .int k b) (hK : K (.bool (decide (a = b))) w) : OpT P ⟨d, .binOp .eql t x y yt, ty, pos, after, gd⟩ ρ w K :=
  OpT.val (v := .bool (decide (a = b))) (by simp only [execOp, hx, hy]; simp [eqGuard_at_int, binOp_eql]; rw [Bool.eq_iff_iff]; simp) hK
theorem OpT.ine (k : IntKind) (a b : Int) (hx : evO ρ x = .int k a) (hy : evO ρ y = .int k b) (hK : K (.bool (decide (a ≠ b))) w) : OpT P ⟨d, .binOp .neq t x y yt, ty, pos, after, gd⟩ ρ w K :=
  OpT.val (v := .bool (decide (a ≠ b))) (by simp only [execOp, hx, hy]; simp [eqGuard_at_int, binOp_neq]; rw [Bool.eq_iff_iff]; simp) hK
theorem OpT.iadd (k : IntKind) (a b c : Int) (hx : evO ρ x = .int k a) (hy : evO ρ y = .int k b) (hc : k.wrap (a + b) = c) (hK : K (.int k c) w) : OpT P ⟨d, .binOp .add t x y yt, ty, pos, after, gd⟩ ρ w K := by
  subst hc
  exact OpT.val (v := .int k (k.wrap (a + b))) (by simp only [execOp, hx, hy]; simp [eqGuard_add, binOp_add, Op.intArith]) hK
theorem OpT.isub (k : IntKind) (a b c : Int) (hx : evO ρ x = .int k a) (hy : evO ρ y = .int k b) (hc : k.wrap (a - b) = c) (hK : K (.int k c) w) : OpT P ⟨d, .binOp .sub t x y yt, ty, pos, after, gd⟩ ρ w K := by
  subst hc
  exact OpT.val (v := .int k (k.wrap (a - b))) (by simp only [execOp, hx, hy]; simp [eqGuard_sub, binOp_sub, Op.intArith]) hK
theorem toList_eq_iff (a b : ByteArray) : (a.toList == b.toList) = decide (a = b) := by
  rw [Bool.eq_iff_iff]
  simp only [beq_iff_eq, decide_eq_true_eq]
  constructor
  · intro h
    have h1 : a.data.toList = b.data.toList := by
      rw [ByteArray.toList_eq, ByteArray.toList_eq] at h; exact h
    cases a; cases b
    simp only [ByteArray.mk.injEq]
    exact Array.toList_inj.1 h1
  · rintro rfl; rfl
theorem OpT.seq (a b : ByteArray) (hx : evO ρ x = .string a) (hy : evO ρ y = .string b) (hK : K (.bool (decide (a = b))) w) : OpT P ⟨d, .binOp .eql t x y yt, ty, pos, after, gd⟩ ρ w K :=
  OpT.val (v := .bool (decide (a = b))) (by simp only [execOp, hx, hy]; rw [← toList_eq_iff]; simp [eqGuard_at_string, binOp, Op.stringOp]) hK
theorem OpT.sne (a b : ByteArray) (hx : evO ρ x = .string a) (hy : evO ρ y = .string b) (hK : K (.bool (decide (a ≠ b))) w) : OpT P ⟨d, .binOp .neq t x y yt, ty, pos, after, gd⟩ ρ w K :=
  OpT.val (v := .bool (decide (a ≠ b))) (by simp only [execOp, hx, hy]; rw [show decide (a ≠ b) = !(decide (a = b)) from by simp, ← toList_eq_iff]; simp [eqGuard_at_string, binOp, Op.stringOp]) hK
theorem OpT.slt (a b : ByteArray) (hx : evO ρ x = .string a) (hy : evO ρ y = .string b) (hK : K (.bool (Op.bytesLess a.toList b.toList)) w) : OpT P ⟨d, .binOp .lss t x y yt, ty, pos, after, gd⟩ ρ w K :=
  OpT.val (v := .bool (Op.bytesLess a.toList b.toList)) (by simp only [execOp, hx, hy]; simp [eqGuard_at_string, binOp, Op.stringOp]) hK
theorem OpT.sge (a b : ByteArray) (hx : evO ρ x = .string a) (hy : evO ρ y = .string b) (hK : K (.bool (!Op.bytesLess a.toList b.toList)) w) : OpT P ⟨d, .binOp .geq t x y yt, ty, pos, after, gd⟩ ρ w K :=
  OpT.val (v := .bool (!Op.bytesLess a.toList b.toList)) (by simp only [execOp, hx, hy]; simp [eqGuard_at_string, binOp, Op.stringOp]) hK

/-! calls -/
theorem OpT.call {f : Operand} {as : Array Operand} {tys : Array TypeId} (k : Nat) (first cap args : List Value) (fn : Func) (hf : P.funcs[k]? = some fn) (hb : fn.body.isSome = true) (hg : fn.name ≠ "runtime.NumGoroutine") (hx : evO ρ f = .func (.func k) first.toArray cap.toArray)
    (ha : first ++ (as.toList.map (evO ρ)) ++ cap = args)
    (hc : Calls P k args.toArray w (fun e w' => ∃ v, e = .returned v ∧ K v w')) : OpT P ⟨d, .call ⟨.value f, as, tys⟩, ty, pos, after, gd⟩ ρ w K := by
  subst ha
  refine OpT.ent (f := k) (args := (first ++ (as.toList.map (evO ρ)) ++ cap).toArray) ?_ hc
  have hn : fn.body.isNone = false := by simp [Option.isNone_eq_false_iff, hb]
  have hg' : (fn.name == "runtime.NumGoroutine") = false := by simpa using hg
  have e1 : first.toArray ++ Array.map (evO ρ) as ++ cap.toArray = (first ++ (as.toList.map (evO ρ)) ++ cap).toArray := by
    apply Array.toList_inj.1; simp
  simp only [execOp, resolve, Deferred.ofValue, hx, Sem.run_bind, Sem.run_pure, Result.andThen_ok, invoke, callFunc, run_program, hf, hg', hn, e1]
  rfl
end
end Go.Eng
