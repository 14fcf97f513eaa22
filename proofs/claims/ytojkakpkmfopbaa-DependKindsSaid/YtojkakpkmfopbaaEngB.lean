/-
  The engine, part B: the heap: what is frozen (Z, as in the world w0), and a list of owned pieces with footprints apart.
-/
import Derived.Test.YtojkakpkmfopbaaEngA
namespace Go.Eng
open Go.RowKit

structure Res where
  P : World → (Nat → Prop) → Prop
  loc : ∀ {w w' : World} {S : Nat → Prop}, P w S → (∀ k, S k → w'.heap[k]? = w.heap[k]?) → P w' S

/-- Z's blocks lie as in w0; the pieces L lie apart from Z and from one another. -/
structure St (Z : Nat → Prop) (w0 w : World) (L : List Res) : Prop where
  os : w.os = w0.os
  tape : w.tape = w0.tape
  output : w.output = w0.output
  size : w0.heap.size ≤ w.heap.size
  dom : ∀ k, Z k → k < w0.heap.size
  old : ∀ k, Z k → w.heap[k]? = w0.heap[k]?
  sep : ∃ F : Nat → Nat → Prop, (∀ (i : Nat) (r : Res), L[i]? = some r → r.P w (F i)) ∧ (∀ i j k, i ≠ j → F i k → ¬ F j k) ∧ (∀ i k, F i k → k < w.heap.size ∧ ¬ Z k)

/-- A block of known cells. -/
def Blk (b : Nat) (t : TypeId) (cs : List Value) : Res where
  P w S := (∀ k, S k ↔ k = b) ∧ w.heap[b]? = some (.cells cs.toArray t (0, 0))
  loc := fun ⟨h1, h2⟩ h => ⟨h1, (h b ((h1 b).2 rfl)).trans h2⟩
/-- An object that is no row of cells (a map, an iterator). -/
def Obk (b : Nat) (o : Obj) : Res where
  P w S := (∀ k, S k ↔ k = b) ∧ w.heap[b]? = some o
  loc := fun ⟨h1, h2⟩ h => ⟨h1, (h b ((h1 b).2 rfl)).trans h2⟩
/-- A slice of one's own, whatever its spare room: its cells. -/
def Row (e sz : Nat) (v : Value) (n : Nat) (cs : List Value) : Res where
  P w S := (∀ k, S k ↔ v.ownBlock = some k) ∧ w.ownsRow 0 e sz v n cs
  loc := fun ⟨h1, h2⟩ h => ⟨h1, by
    refine ⟨h2.1, ?_⟩
    rcases h2.2 with hn | ⟨g, cap, cur, rfl, hb, hgg, rest⟩
    · exact .inl hn
    · exact .inr ⟨g, cap, cur, rfl, hb, (h g ((h1 g).2 rfl)).trans hgg, rest⟩⟩
/-- A pure fact as a piece. -/
def Fact (p : Prop) : Res where
  P _ S := (∀ k, ¬ S k) ∧ p
  loc := fun h _ => h

section
variable {Z : Nat → Prop} {w0 w : World} {L : List Res}

theorem St.start (w : World) : St (fun k => k < w.heap.size) w w [] :=
  ⟨rfl, rfl, rfl, Nat.le_refl _, fun _ h => h, fun _ _ => rfl, fun _ _ => False, fun i r h => by simp at h, fun _ _ _ _ h => h.elim, fun _ _ h => h.elim⟩

theorem St.below {w0 w : World} {L : List Res} (st : St (fun k => k < w0.heap.size) w0 w L) : Below w0.heap.size w0 w :=
  ⟨st.os, st.tape, st.output, st.size, fun k hk => st.old k hk⟩

theorem St.drew (st : St Z w0 w L) : St Z w0 w.drew L :=
  let ⟨F, h1, h2, h3⟩ := st.sep
  ⟨st.os, st.tape, st.output, st.size, st.dom, st.old, F, fun i r hr => r.loc (h1 i r hr) (fun _ _ => rfl), h2, h3⟩

/-- What lies in a world that turned nothing below its size. -/
theorem St.grow {w' : World} (st : St Z w0 w L) (h : Below w.heap.size w w') : St Z w0 w' L := by
  obtain ⟨F, h1, h2, h3⟩ := st.sep
  refine ⟨h.os.trans st.os, h.tape.trans st.tape, h.output.trans st.output, Nat.le_trans st.size h.size, st.dom, fun k hk => (h.block k ?_).trans (st.old k hk), F, fun i r hr => r.loc (h1 i r hr) (fun k hk => h.block k (h3 i k hk).1), h2, fun i k hk => ⟨Nat.lt_of_lt_of_le (h3 i k hk).1 h.size, (h3 i k hk).2⟩⟩
  have := st.dom k hk
  have := st.size
  omega

/-- A new piece, made of new blocks alone. -/
theorem St.cons {w' : World} (st : St Z w0 w L) (h : Below w.heap.size w w') (r : Res) (S : Nat → Prop) (hr : r.P w' S) (hS : ∀ k, S k → w.heap.size ≤ k ∧ k < w'.heap.size) : St Z w0 w' (r :: L) := by
  have st' := st.grow h
  obtain ⟨F, h1, h2, h3⟩ := st.sep
  refine ⟨st'.os, st'.tape, st'.output, st'.size, st'.dom, st'.old, fun i => match i with | 0 => S | i + 1 => F i, ?_, ?_, ?_⟩
  · intro i r' hr'
    cases i with
    | zero => simp at hr'; subst hr'; exact hr
    | succ i => exact r'.loc (h1 i r' (by simpa using hr')) (fun k hk => h.block k (h3 i k hk).1)
  · intro i j k hij hi hj
    cases i with
    | zero =>
      cases j with
      | zero => exact hij rfl
      | succ j => have := (hS k hi).1; have := (h3 j k hj).1; omega
    | succ i =>
      cases j with
      | zero => have := (hS k hj).1; have := (h3 i k hi).1; omega
      | succ j => exact h2 i j k (fun e => hij (by rw [e])) hi hj
  · intro i k hk
    cases i with
    | zero =>
      refine ⟨(hS k hk).2, fun hz => ?_⟩
      have := (hS k hk).1
      have := st.dom k hz
      have := st.size
      omega
    | succ i => exact ⟨Nat.lt_of_lt_of_le (h3 i k hk).1 h.size, (h3 i k hk).2⟩

theorem below_alloc (w : World) (o : Obj) : Below w.heap.size w (w.alloc o) := (Below.refl _ w).alloc (Nat.le_refl _) o

theorem St.alloc (st : St Z w0 w L) (t : TypeId) (cs : List Value) : St Z w0 (w.alloc (.cells cs.toArray t)) (Blk w.heap.size t cs :: L) :=
  st.cons (below_alloc w _) _ (fun k => k = w.heap.size) ⟨fun _ => Iff.rfl, heap_alloc_new w _⟩ (fun k hk => by subst hk; simp)
theorem St.allocO (st : St Z w0 w L) (o : Obj) : St Z w0 (w.alloc o) (Obk w.heap.size o :: L) :=
  st.cons (below_alloc w _) _ (fun k => k = w.heap.size) ⟨fun _ => Iff.rfl, heap_alloc_new w _⟩ (fun k hk => by subst hk; simp)

/-- The pieces in another order, some let go: by their places. -/
def pk (L : List Res) (is : List Nat) : List Res := is.filterMap (L[·]?)
theorem St.sel (is : List Nat) (hl : is.all (Nat.blt · L.length) = true) (hn : is.Nodup) (st : St Z w0 w L) : St Z w0 w (pk L is) := by
  obtain ⟨F, h1, h2, h3⟩ := st.sep
  refine ⟨st.os, st.tape, st.output, st.size, st.dom, st.old, fun j k => ∃ i, is[j]? = some i ∧ F i k, ?_, ?_, ?_⟩
  · have key : ∀ (is : List Nat), is.all (Nat.blt · L.length) = true → ∀ (j : Nat) (r : Res), (pk L is)[j]? = some r → ∃ i : Nat, is[j]? = some i ∧ L[i]? = some r := by
      intro is
      induction is with
      | nil => intro _ j r h; simp [pk] at h
      | cons i is ih =>
        intro hall j r h
        simp only [List.all_cons, Bool.and_eq_true] at hall
        have hi : i < L.length := by simpa [Nat.blt_eq] using hall.1
        have : pk L (i :: is) = L[i] :: pk L is := by simp [pk, List.filterMap_cons, List.getElem?_eq_getElem hi]
        rw [this] at h
        cases j with
        | zero => exact ⟨i, rfl, by simpa [List.getElem?_eq_getElem hi] using h⟩
        | succ j => exact ih hall.2 j r (by simpa using h)
    intro j r hr
    obtain ⟨i, hi, hL⟩ := key is hl j r hr
    have : (fun k => ∃ i, is[j]? = some i ∧ F i k) = F i := by
      funext k
      exact propext ⟨fun ⟨i', h', hf⟩ => by rw [hi] at h'; cases h'; exact hf, fun hf => ⟨i, hi, hf⟩⟩
    show r.P w (fun k => ∃ i, is[j]? = some i ∧ F i k)
    rw [this]
    exact h1 i r hL
  · rintro a b k hab ⟨i, hi, hf⟩ ⟨i', hi', hf'⟩
    refine h2 i i' k (fun e => hab ?_) hf hf'
    subst e
    have ha := (List.getElem?_eq_some_iff.1 hi)
    have hb := (List.getElem?_eq_some_iff.1 hi')
    obtain ⟨ha1, ha2⟩ := ha
    obtain ⟨hb1, hb2⟩ := hb
    have hp := List.pairwise_iff_getElem.1 hn
    rcases Nat.lt_trichotomy a b with h | h | h
    · exact absurd (ha2.trans hb2.symm) (hp a b ha1 hb1 h)
    · exact h
    · exact absurd (hb2.trans ha2.symm) (hp b a hb1 ha1 h)
  · rintro j k ⟨i, _, hf⟩
    exact h3 i k hf

/-- One piece turned, its blocks and new ones alone. -/
theorem St.focus (st : St Z w0 w L) {i : Nat} {r : Res} (hi : L[i]? = some r) : ∃ S, r.P w S ∧ (∀ k, S k → k < w.heap.size ∧ ¬ Z k) ∧
    ∀ (w' : World) (r' : Res) (S' : Nat → Prop), w'.os = w.os → w'.tape = w.tape → w'.output = w.output → w.heap.size ≤ w'.heap.size → (∀ k, k < w.heap.size → ¬ S k → w'.heap[k]? = w.heap[k]?) →
      r'.P w' S' → (∀ k, S' k → k < w'.heap.size ∧ (S k ∨ w.heap.size ≤ k)) → St Z w0 w' (L.set i r') := by
  obtain ⟨F, h1, h2, h3⟩ := st.sep
  have hlt : i < L.length := (List.getElem?_eq_some_iff.1 hi).1
  refine ⟨F i, h1 i r hi, fun k hk => h3 i k hk, ?_⟩
  intro w' r' S' ho ht hu hs hb hr hS
  refine ⟨ho.trans st.os, ht.trans st.tape, hu.trans st.output, Nat.le_trans st.size hs, st.dom, fun k hk => (hb k ?_ (fun hf => (h3 i k hf).2 hk)).trans (st.old k hk), fun j => if j = i then S' else F j, ?_, ?_, ?_⟩
  · have := st.dom k hk
    have := st.size
    omega
  · intro j q hq
    by_cases hj : j = i
    · subst hj
      rw [List.getElem?_set_self hlt] at hq
      cases hq
      simpa using hr
    · rw [List.getElem?_set_ne (Ne.symm hj)] at hq
      simp only [hj, if_false]
      exact q.loc (h1 j q hq) (fun k hk => hb k (h3 j k hk).1 (h2 j i k hj hk))
  · intro a b k hab ha hb'
    by_cases e1 : a = i
    · by_cases e2 : b = i
      · exact hab (e1.trans e2.symm)
      · simp only [e1, e2, if_true, if_false] at ha hb'
        rcases (hS k ha).2 with h | h
        · exact h2 i b k (Ne.symm e2) h hb'
        · have := (h3 b k hb').1; omega
    · by_cases e2 : b = i
      · simp only [e1, e2, if_true, if_false] at ha hb'
        rcases (hS k hb').2 with h | h
        · exact h2 i a k (Ne.symm e1) h ha
        · have := (h3 a k ha).1; omega
      · simp only [e1, e2, if_false] at ha hb'
        exact h2 a b k hab ha hb'
  · intro j k hk
    by_cases hj : j = i
    · simp only [hj, if_true] at hk
      refine ⟨(hS k hk).1, fun hz => ?_⟩
      rcases (hS k hk).2 with h | h
      · exact (h3 i k h).2 hz
      · have := st.dom k hz; have := st.size; omega
    · simp only [hj, if_false] at hk
      exact ⟨Nat.lt_of_lt_of_le (h3 j k hk).1 hs, (h3 j k hk).2⟩

theorem St.blk (st : St Z w0 w L) {i b : Nat} {t : TypeId} {cs : List Value} (hi : L[i]? = some (Blk b t cs)) : w.heap[b]? = some (.cells cs.toArray t (0, 0)) := by
  obtain ⟨S, h, _⟩ := st.focus hi
  exact h.2
theorem St.obk (st : St Z w0 w L) {i b : Nat} {o : Obj} (hi : L[i]? = some (Obk b o)) : w.heap[b]? = some o := by
  obtain ⟨S, h, _⟩ := st.focus hi
  exact h.2
theorem St.row (st : St Z w0 w L) {i e sz n : Nat} {v : Value} {cs : List Value} (hi : L[i]? = some (Row e sz v n cs)) : w.ownsRow 0 e sz v n cs := by
  obtain ⟨S, h, _⟩ := st.focus hi
  exact h.2
theorem St.fact (st : St Z w0 w L) {i : Nat} {p : Prop} (hi : L[i]? = some (Fact p)) : p := by
  obtain ⟨S, h, _⟩ := st.focus hi
  exact h.2

theorem setCell_heap (w : World) (b off : Nat) (v : Value) (t : TypeId) (cs : List Value) (h : w.heap[b]? = some (.cells cs.toArray t (0, 0))) :
    (w.setCell ⟨b, off, none⟩ v).heap[b]? = some (.cells (cs.set off v).toArray t (0, 0)) := by
  simp [World.setCell, Array.getElem?_modify, h]

theorem St.store (st : St Z w0 w L) {i b off : Nat} {t : TypeId} {cs : List Value} (hi : L[i]? = some (Blk b t cs)) (v : Value) : St Z w0 (w.setCell ⟨b, off, none⟩ v) (L.set i (Blk b t (cs.set off v))) := by
  obtain ⟨S, ⟨hS, hb⟩, hlt, H⟩ := st.focus hi
  refine H _ _ S rfl rfl rfl (by simp) (fun k hk hn => ?_) ⟨hS, setCell_heap w b off v t cs hb⟩ (fun k hk => ⟨by simpa using (hlt k hk).1, .inl hk⟩)
  exact heap_setCell_other w _ k v (fun e => hn ((hS k).2 e))

/-- What was frozen for a while is a piece again. -/
theorem St.freeze {r : Res} (st : St Z w0 w (r :: L)) : ∃ S, r.P w S ∧ St (fun k => Z k ∨ S k) w w L ∧ ∀ w' L', St (fun k => Z k ∨ S k) w w' L' → St Z w0 w' (r :: L') := by
  obtain ⟨F, h1, h2, h3⟩ := st.sep
  refine ⟨F 0, h1 0 r rfl, ⟨rfl, rfl, rfl, Nat.le_refl _, ?_, fun _ _ => rfl, fun i => F (i + 1), fun i r' h => h1 (i + 1) r' (by simpa using h), fun i j k hij => h2 _ _ k (by omega), ?_⟩, ?_⟩
  · rintro k (hk | hk)
    · have := st.dom k hk; have := st.size; omega
    · exact (h3 0 k hk).1
  · intro i k hk
    refine ⟨(h3 _ k hk).1, ?_⟩
    rintro (h | h)
    · exact (h3 _ k hk).2 h
    · exact h2 (i + 1) 0 k (by omega) hk h
  · intro w' L' st'
    obtain ⟨F', g1, g2, g3⟩ := st'.sep
    refine ⟨st'.os.trans st.os, st'.tape.trans st.tape, st'.output.trans st.output, Nat.le_trans st.size st'.size, st.dom, fun k hk => (st'.old k (.inl hk)).trans (st.old k hk), fun i => match i with | 0 => F 0 | i + 1 => F' i, ?_, ?_, ?_⟩
    · intro i q hq
      cases i with
      | zero => simp at hq; subst hq; exact r.loc (h1 0 r rfl) (fun k hk => st'.old k (.inr hk))
      | succ i => exact g1 i q (by simpa using hq)
    · intro i j k hij hi hj
      cases i with
      | zero =>
        cases j with
        | zero => exact hij rfl
        | succ j => exact (g3 j k hj).2 (.inr hi)
      | succ i =>
        cases j with
        | zero => exact (g3 i k hi).2 (.inr hj)
        | succ j => exact g2 i j k (fun e => hij (by rw [e])) hi hj
    · intro i k hk
      cases i with
      | zero => exact ⟨Nat.lt_of_lt_of_le (h3 0 k hk).1 st'.size, (h3 0 k hk).2⟩
      | succ i => exact ⟨(g3 i k hk).1, fun hz => (g3 i k hk).2 (.inl hz)⟩

/-- Less is frozen. -/
theorem St.thaw {Z' : Nat → Prop} (st : St Z w0 w L) (h : ∀ k, Z' k → Z k) : St Z' w0 w L :=
  let ⟨F, h1, h2, h3⟩ := st.sep
  ⟨st.os, st.tape, st.output, st.size, fun k hk => st.dom k (h k hk), fun k hk => st.old k (h k hk), F, h1, h2, fun i k hk => ⟨(h3 i k hk).1, fun hz => (h3 i k hk).2 (h k hz)⟩⟩

/-! cells in a row from an address on, in every world in which Z lies as it lies in w0 -/
def RowAt (w : World) (ad : Addr) (cs : List Value) : Prop := ∀ j u, cs[j]? = some u → w.cell? (ad.add j) = some u
def RowZ (Z : Nat → Prop) (w0 : World) (ad : Addr) (cs : List Value) : Prop := ∀ w' : World, (∀ k, Z k → w'.heap[k]? = w0.heap[k]?) → RowAt w' ad cs
theorem RowZ.at {ad : Addr} {cs : List Value} (h : RowZ Z w0 ad cs) (st : St Z w0 w L) : RowAt w ad cs := h w st.old
theorem RowZ.mono {Z' : Nat → Prop} {w1 : World} {ad : Addr} {cs : List Value} (h : RowZ Z w0 ad cs) (hz : ∀ k, Z k → Z' k) (hw : ∀ k, Z k → w1.heap[k]? = w0.heap[k]?) : RowZ Z' w1 ad cs :=
  fun w' h' => h w' (fun k hk => (h' k (hz k hk)).trans (hw k hk))
theorem RowAt.blk {b : Nat} {t : TypeId} {cs : List Value} {fr : Nat × Nat} (h : w.heap[b]? = some (.cells cs.toArray t fr)) : RowAt w ⟨b, 0, none⟩ cs := by
  intro j u hu
  rw [Addr.add_lit, Nat.zero_add, cell_of_row w b j cs.toArray t fr h]
  simpa using hu
end
end Go.Eng
