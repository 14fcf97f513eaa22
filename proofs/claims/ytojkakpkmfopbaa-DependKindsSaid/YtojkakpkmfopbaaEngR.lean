/-
  Arguments opened: what reads as data lies as data.
-/
import Derived.Test.YtojkakpkmfopbaaEngO
import Derived.SizedLaws
import Derived.ProofKit
namespace Go.Eng
open Go.RowKit
theorem mapM_some {α β : Type} {f : α → Option β} : ∀ {l : List α} {ys : List β}, l.mapM f = some ys → ys.length = l.length ∧ ∀ (i : Nat) (a : α), l[i]? = some a → ∃ y, ys[i]? = some y ∧ f a = some y
  | [], ys, h => by
    simp at h; subst h
    exact ⟨rfl, fun i a h => by simp at h⟩
  | a :: l, ys, h => by
    rw [List.mapM_cons] at h
    cases hf : f a with
    | none => rw [hf] at h; cases h
    | some y =>
      rw [hf] at h
      cases hm : l.mapM f with
      | none => rw [hm] at h; cases h
      | some zs =>
        rw [hm] at h
        cases h
        obtain ⟨h1, h2⟩ := mapM_some hm
        refine ⟨by simp [h1], fun i b hb => ?_⟩
        cases i with
        | zero => simp at hb; subst hb; exact ⟨y, rfl, hf⟩
        | succ i => exact h2 i b (by simpa using hb)
section
variable {H : Type} {enc : TypeId × Value → H} {P : Program} {W : World} {base : Nat} {sp : Nat → Bool} {held : Bool}
def wOk (P : Program) (t : TypeId) (d : DataW H) : Prop := ∀ x ∈ d.weights P t, x ≤ reachBytes
theorem wAll {e : TypeId} : ∀ {ds : List (DataW H)} {i : Nat} {d : DataW H}, ds[i]? = some d → ∀ x ∈ d.weights P e, x ∈ DataW.weightsAll P e ds
  | [], i, d, h => by simp at h
  | a :: ds, i, d, h => by
    intro x hx
    rw [DataW.weightsAll, List.mem_append]
    cases i with
    | zero => simp at h; subst h; exact .inl hx
    | succ i => exact .inr (wAll (by simpa using h) x hx)
theorem wEach : ∀ {ts : List TypeId} {ds : List (DataW H)} {i : Nat} {t : TypeId} {d : DataW H}, ts[i]? = some t → ds[i]? = some d → ∀ x ∈ d.weights P t, x ∈ DataW.weightsEach P ts ds
  | [], _, i, t, d, h, _ => by simp at h
  | _ :: _, [], i, t, d, _, h => by simp at h
  | a :: ts, b :: ds, i, t, d, ht, hd => by
    intro x hx
    rw [DataW.weightsEach, List.mem_append]
    cases i with
    | zero => simp at ht hd; subst ht hd; exact .inl hx
    | succ i => exact .inr (wEach (by simpa using ht) (by simpa using hd) x hx)
theorem rd_pos {fuel : Nat} {t : TypeId} {cs : List Value} {y : DataW H × List MemPlace} (h : DataW.trod enc P W base sp held fuel t cs = some y) : ∃ f, fuel = f + 1 := by
  cases fuel with
  | zero => cases h
  | succ f => exact ⟨f, rfl⟩
theorem rd_int {fuel : Nat} {t : TypeId} {k : IntKind} {cs : List Value} {y : DataW H × List MemPlace} (ht : P.underlying t = some (.int k)) (h : DataW.trod enc P W base sp held fuel t cs = some y) : ∃ n, cs = [.int k n] := by
  obtain ⟨f, rfl⟩ := rd_pos h
  unfold DataW.trod at h
  rw [ht] at h
  split at h <;> simp_all
theorem rd_str {fuel : Nat} {t : TypeId} {cs : List Value} {y : DataW H × List MemPlace} (ht : P.underlying t = some .string) (h : DataW.trod enc P W base sp held fuel t cs = some y) : ∃ s, cs = [.string s] := by
  obtain ⟨f, rfl⟩ := rd_pos h
  unfold DataW.trod at h
  rw [ht] at h
  split at h <;> simp_all
def fieldsB (P : Program) (t : TypeId) : Option (List (TypeId × Nat × Nat)) := match P.underlying t with | some (.struct fs) => some (fs.toList.map fun f => (f.type, f.offset, P.cellsOf f.type)) | _ => none
theorem rd_struct {fuel : Nat} {t : TypeId} {cs : List Value} {d : DataW H} {p : List MemPlace} {L : List (TypeId × Nat × Nat)} (hf : fieldsB P t = some L) (h : DataW.trod enc P W base sp held (fuel + 1) t cs = some (d, p)) (hw : wOk P t d) :
    cs.length = P.cellsOf t ∧ ∀ (i : Nat) ty off sz, L[i]? = some (ty, off, sz) → ∃ d' p', DataW.trod enc P W base sp held fuel ty ((cs.drop off).take sz) = some (d', p') ∧ wOk P ty d' := by
  unfold fieldsB at hf
  cases hu : P.underlying t with
  | none => rw [hu] at hf; cases hf
  | some td =>
    rw [hu] at hf
    cases td <;> first | (cases hf; done) | skip
    rename_i fs
    simp only [Option.some.injEq] at hf
    subst hf
    unfold DataW.trod at h
    rw [hu] at h
    simp only at h
    split at h
    · rename_i hl
      refine ⟨hl, ?_⟩
      cases hm : (fs.toList.mapM fun f => DataW.trod enc P W base sp held fuel f.type ((cs.drop f.offset).take (P.cellsOf f.type))) with
      | none => rw [hm] at h; cases h
      | some xs =>
        rw [hm] at h
        simp only [Option.map_some, Option.some.injEq, Prod.mk.injEq] at h
        obtain ⟨rfl, rfl⟩ := h
        obtain ⟨h1, h2⟩ := mapM_some hm
        intro i ty off sz hi
        rw [List.getElem?_map] at hi
        cases hfi : fs.toList[i]? with
        | none => rw [hfi] at hi; cases hi
        | some f =>
          rw [hfi] at hi
          simp only [Option.map_some, Option.some.injEq, Prod.mk.injEq] at hi
          obtain ⟨rfl, rfl, rfl⟩ := hi
          obtain ⟨y, hy, hv⟩ := h2 i f hfi
          refine ⟨y.1, y.2, hv, fun x hx => hw x ?_⟩
          rw [DataW.weights, hu]
          exact wEach (i := i) (by rw [List.getElem?_map, hfi]; rfl) (by rw [List.getElem?_map, hy]; rfl) x hx
    · cases h
theorem rowZ_of {ad : Addr} {n : Nat} {cs : List Value} (h : W.cells? base ad n = some cs) : RowZ (fun k => k < W.heap.size) W ad cs := by
  intro w' hw j u hu
  unfold World.cells? at h
  split at h
  · obtain ⟨h1, h2⟩ := mapM_some h
    have hj : j < (List.range n).length := by rw [← h1]; exact (List.getElem?_eq_some_iff.1 hu).1
    obtain ⟨y, hy, hv⟩ := h2 j j (by rw [List.getElem?_range (by simpa using hj)])
    rw [hu] at hy; cases hy
    refine (World.cell?_of_block (hw _ ?_)).trans hv
    show (ad.add j).block < W.heap.size
    unfold World.cell? at hv
    rcases Nat.lt_or_ge (ad.add j).block W.heap.size with hlt | hge
    · exact hlt
    · rw [Array.getElem?_eq_none hge] at hv; cases hv
  · cases h
theorem rd_slice {α : Type} {r : Rl α} {fuel : Nat} {t e : TypeId} {cs : List Value} {d : DataW H} {p : List MemPlace} (ht : P.underlying t = some (.slice e)) (hsz : P.cellsOf e = r.sz) (hb0 : Nat.blt 0 (P.bytesOf e) = true)
    (hr : ∀ cs d p, DataW.trod enc P W base sp held fuel e cs = some (d, p) → wOk P e d → ∃ x, r.R (fun k => k < W.heap.size) W cs x)
    (h : DataW.trod enc P W base sp held (fuel + 1) t cs = some (d, p)) (hw : wOk P t d) : ∃ v xs, cs = [v] ∧ r.sl (fun k => k < W.heap.size) W v xs := by
  have hb : 0 < P.bytesOf e := by simpa [Nat.blt_eq] using hb0
  unfold DataW.trod at h
  rw [ht] at h
  split at h <;> first | (rename_i e1; cases e1; done) | skip
  all_goals first
    | (simp_all; done)
    | skip
  · exact ⟨_, [], rfl, Rl.sl_nil _ _ _ _ _⟩
  · rename_i _ _ e' a len cap heq
    simp only [Option.some.injEq, TypeDesc.slice.injEq] at heq
    subst heq
    simp only at h
    split at h
    · rename_i hc
      cases hm : List.mapM (fun i => (W.cells? base (a.add (i * P.cellsOf e)) (P.cellsOf e)).bind (DataW.trod enc P W base sp held fuel e)) (List.range len) with
      | none => rw [hm] at h; cases h
      | some elems =>
        rw [hm] at h
        simp only [Option.bind_some, Option.map_eq_some_iff, Prod.mk.injEq] at h
        obtain ⟨rest, _, rfl, _⟩ := h
        obtain ⟨h1, h2⟩ := mapM_some hm
        rw [List.length_range] at h1
        have hlen : len ≤ 140737488355328 := by
          have := hw ((elems.map (·.1)).length + (rest.map (·.1)).length |> (· * P.bytesOf e)) (by rw [DataW.weights, ht]; exact List.mem_cons_self)
          have h3 : elems.length * 1 ≤ ((elems.map (·.1)).length + (rest.map (·.1)).length) * P.bytesOf e := Nat.mul_le_mul (by simp) hb
          simp only [reachBytes] at this
          omega
        have hex : ∀ i : Fin len, ∃ x : α, ∃ cs, RowZ (fun k => k < W.heap.size) W (a.add (i.1 * r.sz)) cs ∧ r.R (fun k => k < W.heap.size) W cs x := by
          intro i
          obtain ⟨y, hy, hv⟩ := h2 i.1 i.1 (List.getElem?_range i.2)
          cases hcs : W.cells? base (a.add (i.1 * P.cellsOf e)) (P.cellsOf e) with
          | none => rw [hcs] at hv; cases hv
          | some cs =>
            rw [hcs] at hv
            obtain ⟨x, hx⟩ := hr cs y.1 y.2 hv (fun q hq => hw q (by
              rw [DataW.weights, ht]
              refine List.mem_cons_of_mem _ (List.mem_append_left _ ?_)
              exact wAll (i := i.1) (by rw [List.getElem?_map, hy]; rfl) q hq))
            refine ⟨x, cs, ?_, hx⟩
            rw [← hsz]
            exact rowZ_of hcs
        refine ⟨_, List.ofFn (fun i => (hex i).choose), rfl, some a, cap, by rw [List.length_ofFn], by rw [List.length_ofFn]; exact hlen, ?_⟩
        intro i x hx
        have hi : i < len := by have := (List.getElem?_eq_some_iff.1 hx).1; rwa [List.length_ofFn] at this
        rw [List.getElem?_ofFn, dif_pos hi] at hx
        cases hx
        obtain ⟨cs, h5, h6⟩ := (hex ⟨i, hi⟩).choose_spec
        exact ⟨a, cs, rfl, h5, h6⟩
    · cases h
end
end Go.Eng
