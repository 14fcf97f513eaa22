/-
  The engine, part F: structs compared; bytes of strings.
-/
import Derived.Test.YtojkakpkmfopbaaEngE
import Derived.Lib.ConvBytes
import Derived.Laws.StructEq
namespace Go.Eng
open Go.RowKit

section
variable {P : Program} {w : World} {xs ys : Array Value} {d : Nat}
theorem eqs_of {t : TypeId} {fs : Array Field} {r : Bool} (hu : P.underlying t = some (.struct fs)) (hp : P.stoodInHeld t = false) (h : (Op.eqFields d xs ys fs.toList).run P w = .ok r w) : (Op.equalIn (d + 1) t (.agg xs) (.agg ys)).run P w = .ok r w := by
  have e : P.fieldsOf t = fs := by simp [Program.fieldsOf, hu]
  rw [run_equalIn_struct w d t xs ys (by rw [e]; exact hu) hp, e]
  exact h
theorem eqs_nil : (Op.eqFields d xs ys []).run P w = .ok true w := rfl
theorem eqs_cons {f : Field} {fs : List Field} {a b : Value} {r rs : Bool} (hn : f.name ≠ "_") (ha : (part f.type xs f.offset).run P w = .ok a w) (hb : (part f.type ys f.offset).run P w = .ok b w)
    (he : (Op.equalIn d f.type a b).run P w = .ok r w) (hr : (Op.eqFields d xs ys fs).run P w = .ok rs w) : (Op.eqFields d xs ys (f :: fs)).run P w = .ok (r && rs) w := by
  unfold Op.eqFields
  simp only [hn, ne_eq, not_false_eq_true, if_true, Sem.run_bind, ha, hb, he, Result.andThen_ok]
  cases r
  · rfl
  · simpa using hr
theorem run_partS {t off : Nat} {v : Value} {cs : Array Value} (h : aggB P t = some false) (hv : cs[off]? = some v) : (part t cs off).run P w = .ok v w := by
  simp [part, run_isAgg h, hv]
theorem run_partA {t off n : Nat} {cs : Array Value} (h : aggB P t = some true) (hs : sizeB P t = some n) : (part t cs off).run P w = .ok (.agg (cs.extract off (off + n))) w := by
  simp [part, run_isAgg h, run_sizeOf hs]
end

def byt (s : ByteArray) (k : Nat) : Int := ((s.data.toList.getD k 0).toNat : Int)
theorem byt_nn (s : ByteArray) (k : Nat) : 0 ≤ byt s k := by unfold byt; omega
theorem byt_lt (s : ByteArray) (k : Nat) : byt s k < 256 := by unfold byt; have := (s.data.toList.getD k 0).toNat_lt; omega
/-- A row that holds a string's bytes. -/
def Byt (b e : Nat) (s : ByteArray) : Res where
  P w S := (∀ k, S k ↔ k = b) ∧ ∃ cs fr, w.heap[b]? = some (.cells cs e fr) ∧ ∀ j, j < s.size → cs[j]? = some (.int .u8 (byt s j))
  loc := fun ⟨h1, cs, fr, h2, h3⟩ h => ⟨h1, cs, fr, (h b ((h1 b).2 rfl)).trans h2, h3⟩

section
variable {P : Program} {ρ : Env} {w : World} {K : Value → World → Prop} {d : Option Tmp} {ty : TypeId} {pos : String} {after : Array Edge} {gd : Option (Nat × Bool)}
variable {Z : Nat → Prop} {w0 : World} {L : List Res}

theorem OpT.aggEq {t : TypeId} {x y : Operand} {yt : TypeId} (xs ys : List Value) (r : Bool) (hg : P.eqGuardType P.depth t = false) (he : ∀ w, (Op.equalIn 10000 t (.agg xs.toArray) (.agg ys.toArray)).run P w = .ok r w) (hx : evO ρ x = .agg xs.toArray) (hy : evO ρ y = .agg ys.toArray) (hK : K (.bool r) w) :
    OpT P ⟨d, .binOp .eql t x y yt, ty, pos, after, gd⟩ ρ w K :=
  OpT.val (v := .bool r) (by simp only [execOp, hx, hy, Sem.run_bind, run_eqGuard_agg w .eql t x y _ _ hg, Result.andThen_ok, run_eql_struct, he, Sem.run_pure]) hK
theorem OpT.aggNe {t : TypeId} {x y : Operand} {yt : TypeId} (xs ys : List Value) (r : Bool) (hg : P.eqGuardType P.depth t = false) (he : ∀ w, (Op.equalIn 10000 t (.agg xs.toArray) (.agg ys.toArray)).run P w = .ok r w) (hx : evO ρ x = .agg xs.toArray) (hy : evO ρ y = .agg ys.toArray) (hK : K (.bool (!r)) w) :
    OpT P ⟨d, .binOp .neq t x y yt, ty, pos, after, gd⟩ ρ w K :=
  OpT.val (v := .bool (!r)) (by simp only [execOp, hx, hy, Sem.run_bind, run_eqGuard_agg w .neq t x y _ _ hg, Result.andThen_ok, run_neq_struct, he, Sem.run_pure]) hK
theorem str_get (s : ByteArray) (k : Nat) (hk : k < s.size) : ((s[k]'hk).toNat : Int) = byt s k := by
  unfold byt
  have : s.data.toList.getD k 0 = s[k] := by
    rw [List.getD_eq_getElem?_getD]
    have hk' : k < s.data.size := hk
    rw [Array.getElem?_toList, Array.getElem?_eq_getElem hk']
    rfl
  rw [this]
theorem OpT.idxStr {t : TypeId} {x ix : Operand} (s : ByteArray) (kd : IntKind) (k : Nat) (hu : P.underlying t = some .string) (hx : evO ρ x = .string s) (hi : evO ρ ix = .int kd k) (hk : k < s.size) (hK : K (.int .u8 (byt s k)) w) : OpT P ⟨d, .index t x ix, ty, pos, after, gd⟩ ρ w K := by
  rw [← str_get s k hk] at hK
  exact OpT.val (v := .int .u8 (s[k].toNat : Int)) (by simp [execOp, hx, hi, Instr.index, asIntOf, run_underlying hu, getElem?_pos s k hk]) hK
theorem OpT.strBytes {src dst e : TypeId} {x : Operand} (st : St Z w0 w L) (s : ByteArray) (hs : P.underlying src = some .string) (hd : P.underlying dst = some (.slice e)) (he : P.underlying e = some (.int .u8)) (hx : evO ρ x = .string s)
    (hK : ∀ b c w', St Z w0 w' (Byt b e s :: L) → K (.slice (some ⟨b, 0, none⟩) s.size c) w') : OpT P ⟨d, .convert src dst x, ty, pos, after, gd⟩ ρ w K := by
  refine OpT.val (v := .slice (some ⟨w.heap.size, 0, none⟩) s.size (grownCap w s.size 0 e)) (w' := Lib.bytesWorld w e s) ?_ (hK _ _ _ ?_)
  · simp only [execOp, hx, Sem.run_bind, Lib.run_convert_string_bytes w src dst e s hs hd he, Result.andThen_ok, Sem.run_pure]
  · have hb : Below w.heap.size w (Lib.bytesWorld w e s) := ⟨rfl, rfl, rfl, by rw [Lib.bytesWorld_size]; omega, fun k hk => Lib.bytesWorld_at_old w e s k hk⟩
    refine st.cons hb (Byt w.heap.size e s) (fun k => k = w.heap.size) ⟨fun _ => Iff.rfl, _, _, Lib.bytesWorld_at_new w e s, fun j hj => ?_⟩ (fun k hk => by subst hk; rw [Lib.bytesWorld_size]; omega)
    simp only [Lib.bytesCells]
    have hj' : j < s.data.size := hj
    rw [Array.getElem?_append_left (by simpa using hj')]
    rw [Array.getElem?_map, Array.getElem?_eq_getElem hj']
    simp only [Option.map_some, byt, List.getD_eq_getElem?_getD, Array.getElem?_toList, Array.getElem?_eq_getElem hj', Option.getD_some]
theorem St.byt (st : St Z w0 w L) {i b e k : Nat} {s : ByteArray} (hi : L[i]? = some (Byt b e s)) (hk : k < s.size) : w.cell? ((⟨b, 0, none⟩ : Addr).add k) = some (.int .u8 (Eng.byt s k)) := by
  obtain ⟨S, ⟨hS, cs, fr, hb, hc⟩, _⟩ := st.focus hi
  rw [Addr.add_lit, Nat.zero_add, cell_of_row w b k cs e fr hb]
  exact hc k hk
end
end Go.Eng
