/-
  Fixed runs: values that are known; a field of a value; a part of what is read.
-/
import Derived.Test.YtojkakpkmfopbaaEngN
namespace Go.Eng
open Go.RowKit
abbrev sl (b n c : Nat) : Value := .slice (some ⟨b, 0, none⟩) n c
/-- Cells and what lies behind them. -/
abbrev cx (cs ex : List Value) : List Value := cs ++ ex
section
variable {P : Program} {ρ : Env} {w : World} {K : Value → World → Prop} {d : Option Tmp} {ty : TypeId} {pos : String} {after : Array Edge} {gd : Option (Nat × Bool)}
variable {Z : Nat → Prop} {w0 : World} {L : List Res}
theorem OpT.lit {o : Oper} {b c : Bool} (h : b = c) (f : K (.bool b) w → OpT P o ρ w K) (hK : K (.bool c) w) : OpT P o ρ w K := f (h ▸ hK)
theorem OpT.litV {o : Oper} {v v' : Value} (h : v = v') (f : K v w → OpT P o ρ w K) (hK : K v' w) : OpT P o ρ w K := f (h ▸ hK)
theorem OpT.fieldV {t f off : Nat} {x : Operand} (cs : List Value) (v : Value) (hu : ∃ fs fd, P.underlying t = some (.struct fs) ∧ fs[f]? = some fd ∧ aggB P fd.type = some false ∧ fd.offset = off) (hx : evO ρ x = .agg cs.toArray) (hv : cs[off]? = some v) (hK : K v w) : OpT P ⟨d, .field t x f, ty, pos, after, gd⟩ ρ w K := by
  obtain ⟨fs, fd, h1, h2, h3, rfl⟩ := hu
  refine OpT.val (v := v) ?_ hK
  have hp : (part fd.type cs.toArray fd.offset).run P w = .ok v w := run_partS h3 (by simpa using hv)
  simp only [execOp, hx, Instr.field, Sem.run_bind, run_underlying h1, Result.andThen_ok, h2, asAgg, Sem.run_pure, hp]
theorem Rl.sl_drop {α : Type} {r : Rl α} {A : Option Addr} {n c : Nat} {xs : List α} (h : r.sl Z w0 (.slice A n c) xs) (l : Nat) (hl : l ≤ xs.length) (hm : c ≠ l) : r.sl Z w0 (sliced A l n c r.sz) (xs.drop l) := by
  obtain ⟨A', c', e, h2, h3⟩ := h
  cases e
  refine ⟨_, _, by rw [List.length_drop]; rfl, by rw [List.length_drop]; omega, fun i x hx => ?_⟩
  rw [List.getElem?_drop] at hx
  obtain ⟨ad, cs, rfl, hr, hR⟩ := h3 (l + i) x hx
  refine ⟨ad.add (l * r.sz), cs, by simp [hm], ?_, hR⟩
  rw [add_add, ← Nat.add_mul]
  exact hr
theorem OpT.sliceLo {t e sz : Nat} {x lo : Operand} {A : Option Addr} {n c : Nat} (l : Nat) (hu : P.underlying t = some (.slice e)) (hs : sizeB P e = some sz) (hx : evO ρ x = .slice A n c) (hl : evO ρ lo = .int .i64 l) (hc : l ≤ n) (hK : K (sliced A l n c sz) w) :
    OpT P ⟨d, .slice t x (some lo) none none, ty, pos, after, gd⟩ ρ w K := by
  have he : P.elem t = e := by simp [Program.elem, hu]
  have hu' : P.underlying t = some (.slice (P.elem t)) := by rw [he]; exact hu
  refine OpT.val (v := sliced A l n c sz) ?_ hK
  simp only [execOp, hx, hl, Sem.run_bind, Option.map_some, Option.map_none, run_sliceAt_slice (h := hu'), run_slice_l (ht := hu') (h0 := Int.natCast_nonneg l) (h1 := Int.ofNat_le.2 hc), he, run_sizeOf hs, Result.andThen_ok, Sem.run_pure]
  rfl
theorem St.selD {M : List Res} (n : Nat) (is : List Nat) (h1 : is.all (Nat.blt · n) = true) (h2 : Nat.ble n M.length = true) (hn : is.Nodup) (st : St Z w0 w M) : St Z w0 w (Go.Eng.pk (M.take n) is ++ M.drop n) := by
  rw [← List.take_append_drop n M] at st
  refine St.selT (M.take n) is ?_ hn st
  have : (M.take n).length = n := by rw [List.length_take]; exact Nat.min_eq_left (by simpa [Nat.ble_eq] using h2)
  rw [this]; exact h1
theorem one_left {α : Type} {x p : α} {A B : List α} (h : [x] = A ++ p :: B) : A = [] ∧ p = x ∧ B = [] := by
  cases A with
  | nil => simp at h; exact ⟨rfl, h.1.symm, h.2⟩
  | cons a A => simp at h
theorem Rl.sl_blk {α : Type} {r : Rl α} {b c : Nat} {cs : List Value} {xs : List α} (h : RowZ Z w0 ⟨b, 0, none⟩ cs) (hl : xs.length ≤ 140737488355328) (hR : ∀ i x, xs[i]? = some x → r.R Z w0 ((cs.drop (i * r.sz)).take r.sz) x) : r.sl Z w0 (.slice (some ⟨b, 0, none⟩) xs.length c) xs :=
  ⟨some ⟨b, 0, none⟩, c, rfl, hl, fun i x hx => ⟨⟨b, 0, none⟩, _, rfl, h.part _ _, hR i x hx⟩⟩
theorem St.freezeBX {b : Nat} {t : TypeId} {cs : List Value} (st : St Z w0 w (Blk b t cs :: L)) : ∃ Z', Ext Z w0 Z' w ∧ RowZ Z' w ⟨b, 0, none⟩ cs ∧ St Z' w w L := by
  obtain ⟨Z', hz, hw, hr, st', bk⟩ := st.freezeB
  exact ⟨Z', ⟨hz, hw, fun w' L' h => (bk w' L' h).tl⟩, hr, st'⟩
theorem Ext.rowZ {Z1 : Nat → Prop} {w1 : World} {ad : Addr} {cs : List Value} (h : Ext Z w0 Z1 w1) (g : RowZ Z w0 ad cs) : RowZ Z1 w1 ad cs := g.mono h.1 h.2.1
end
end Go.Eng
