/-
  The engine, part D: data that is read; calls by contracts; appends; the frames of code's ends.
-/
import Derived.Test.YtojkakpkmfopbaaEngC
namespace Go.Eng
open Go.RowKit

/-- How cells in a row read as data, over what is frozen. -/
structure Rl (α : Type) where
  sz : Nat
  R : (Nat → Prop) → World → List Value → α → Prop
  len : ∀ {Z w cs x}, R Z w cs x → cs.length = sz
  mono : ∀ {Z Z' : Nat → Prop} {w w' : World} {cs x}, R Z w cs x → (∀ k, Z k → Z' k) → (∀ k, Z k → w'.heap[k]? = w.heap[k]?) → R Z' w' cs x

def slLen : Nat := 140737488355328

/-- A slice value reads as a list. -/
def Rl.sl {α : Type} (r : Rl α) (Z : Nat → Prop) (w : World) (v : Value) (xs : List α) : Prop :=
  ∃ A c, v = .slice A xs.length c ∧ xs.length ≤ 140737488355328 ∧ ∀ (i : Nat) (x : α), xs[i]? = some x → ∃ ad cs, A = some ad ∧ RowZ Z w (ad.add (i * r.sz)) cs ∧ r.R Z w cs x
theorem Rl.sl_mono {α : Type} {r : Rl α} {Z Z' : Nat → Prop} {w w' : World} {v : Value} {xs : List α} (h : r.sl Z w v xs) (hz : ∀ k, Z k → Z' k) (hw : ∀ k, Z k → w'.heap[k]? = w.heap[k]?) : r.sl Z' w' v xs := by
  obtain ⟨A, c, h1, h2, h3⟩ := h
  refine ⟨A, c, h1, h2, fun i x hx => ?_⟩
  obtain ⟨ad, cs, e, hr, hR⟩ := h3 i x hx
  exact ⟨ad, cs, e, hr.mono hz hw, r.mono hR hz hw⟩
theorem Rl.sl_le {α : Type} {r : Rl α} {Z : Nat → Prop} {w : World} {v : Value} {xs : List α} (h : r.sl Z w v xs) : xs.length ≤ 140737488355328 := by
  obtain ⟨_, _, _, h2, _⟩ := h
  exact h2
theorem Rl.sl_one {α : Type} {r : Rl α} {Z : Nat → Prop} {w : World} {v : Value} {xs : List α} (h : r.sl Z w v xs) : v.oneCell' = true := by
  obtain ⟨_, _, rfl, _⟩ := h
  rfl
theorem Rl.sl_cells {α : Type} {r : Rl α} {Z : Nat → Prop} {w : World} {v : Value} {xs : List α} (h : r.sl Z w v xs) : v.cells = #[v] := by
  obtain ⟨_, _, rfl, _⟩ := h
  rfl
theorem Rl.sl_nil {α : Type} (r : Rl α) (Z : Nat → Prop) (w : World) (A : Option Addr) (c : Nat) : r.sl Z w (.slice A 0 c) [] := ⟨A, c, rfl, by simp, fun i x h => by simp at h⟩

/-- One cell by an encoding. -/
def Rl.enc {α : Type} (f : α → Value) : Rl α where
  sz := 1
  R _ _ cs x := cs = [f x]
  len h := by rw [h]; rfl
  mono h _ _ := h
abbrev Rl.str : Rl ByteArray := Rl.enc Value.string
abbrev Rl.int (k : IntKind) : Rl Int := Rl.enc (Value.int k)
abbrev Rl.bool : Rl Bool := Rl.enc Value.bool
/-- One cell that is a slice. -/
def Rl.list {α : Type} (r : Rl α) : Rl (List α) where
  sz := 1
  R Z w cs x := ∃ v, cs = [v] ∧ r.sl Z w v x
  len := by rintro _ _ _ _ ⟨v, rfl, _⟩; rfl
  mono := by rintro _ _ _ _ _ _ ⟨v, rfl, h⟩ hz hw; exact ⟨v, rfl, Rl.sl_mono h hz hw⟩

/-- A piece: the value reads so within its own blocks. -/
def Imm {α : Type} (r : Rl α) (v : Value) (xs : List α) : Res where
  P w S := r.sl S w v xs
  loc h hs := Rl.sl_mono h (fun _ h => h) hs

structure CallOk (P : Program) (k : Nat) : Prop where
  ok : ∃ fn, P.funcs[k]? = some fn ∧ fn.body.isSome = true ∧ fn.name ≠ "runtime.NumGoroutine"

def Ret (Post : Value → World → Prop) : Ending → World → Prop := fun e w' => ∃ v, e = .returned v ∧ Post v w'

section
variable {P : Program} {ρ : Env} {w : World} {K : Value → World → Prop} {d : Option Tmp} {ty : TypeId} {pos : String} {after : Array Edge} {gd : Option (Nat × Bool)}
variable {Z : Nat → Prop} {w0 : World} {L : List Res}

theorem OpT.callS {f : Operand} {as : Array Operand} {tys : Array TypeId} {k : Nat} {Post : Value → World → Prop} (ok : CallOk P k) (first cap args : List Value) (hx : evO ρ f = .func (.func k) first.toArray cap.toArray)
    (ha : first ++ (as.toList.map (evO ρ)) ++ cap = args) (hc : Calls P k args.toArray w (Ret Post)) (hK : ∀ v w', Post v w' → K v w') : OpT P ⟨d, .call ⟨.value f, as, tys⟩, ty, pos, after, gd⟩ ρ w K := by
  obtain ⟨fn, h1, h2, h3⟩ := ok.ok
  refine OpT.call k first cap args fn h1 h2 h3 hx ha (hc.mono ?_)
  rintro e w' ⟨v, rfl, hp⟩
  exact ⟨v, rfl, hK v w' hp⟩

theorem Rl.sl_get {α : Type} {r : Rl α} {A : Option Addr} {n c : Nat} {xs : List α} (h : r.sl Z w0 (.slice A n c) xs) (i : Nat) (hi : i < xs.length) : ∃ ad cs, A = some ad ∧ RowZ Z w0 (ad.add (i * r.sz)) cs ∧ r.R Z w0 cs xs[i] := by
  obtain ⟨A', c', hv, _, hg⟩ := h
  cases hv
  exact hg i _ (List.getElem?_eq_getElem hi)

theorem OpT.idxR {α : Type} {r : Rl α} {t e : Nat} {x ix : Operand} {v : Value} {xs : List α} (hu : P.underlying t = some (.slice e)) (hs : sizeB P e = some r.sz) (h : r.sl Z w0 v xs) (hx : evO ρ x = v) (kd : IntKind) (i : Nat) (hi : evO ρ ix = .int kd i) (hlt : i < xs.length)
    (hK : ∀ ad cs, RowZ Z w0 ad cs → r.R Z w0 cs xs[i] → K (.pointer (some ad)) w) : OpT P ⟨d, .indexAddr t x ix, ty, pos, after, gd⟩ ρ w K := by
  obtain ⟨A, c, rfl, hn, hg⟩ := h
  obtain ⟨ad, cs, rfl, hr, hR⟩ := hg i _ (List.getElem?_eq_getElem hlt)
  exact OpT.idx r.sz ad _ xs.length c kd i hu hs hx hi (by omega) (by omega) (by rw [Int.toNat_natCast]) (hK _ _ hr hR)
theorem OpT.lenR {α : Type} {r : Rl α} {t e : Nat} {x : Operand} {tys : Array TypeId} {v : Value} {xs : List α} (ht : tys[0]? = some t) (hu : P.underlying t = some (.slice e)) (h : r.sl Z w0 v xs) (hx : evO ρ x = v) (hK : K (.int .i64 xs.length) w) :
    OpT P ⟨d, .call ⟨.builtin .len, #[x], tys⟩, ty, pos, after, gd⟩ ρ w K := by
  obtain ⟨A, c, rfl, hn, hg⟩ := h
  exact OpT.lenS A xs.length c ht hu hx hK

/-- Pieces of the head chosen, the tail kept. -/
theorem St.selT (A : List Res) (is : List Nat) (hl : is.all (Nat.blt · A.length) = true) (hn : is.Nodup) (st : St Z w0 w (A ++ L)) : St Z w0 w (pk A is ++ L) := by
  obtain ⟨F, h1, h2, h3⟩ := st.sep
  have hsl : (pk A is).length = is.length := by
    clear hn
    induction is with
    | nil => rfl
    | cons i is ih =>
      simp only [List.all_cons, Bool.and_eq_true] at hl
      have hi : i < A.length := by simpa [Nat.blt_eq] using hl.1
      have e1 : pk A (i :: is) = A[i] :: pk A is := by simp [pk, List.getElem?_eq_getElem hi]
      rw [e1, List.length_cons, List.length_cons, ih hl.2]
  have hget : ∀ (j : Nat) (r : Res), (pk A is)[j]? = some r → ∃ i : Nat, is[j]? = some i ∧ A[i]? = some r := by
    clear hn hsl
    induction is with
    | nil => intro j r h; simp [pk] at h
    | cons i is ih =>
      intro j r h
      simp only [List.all_cons, Bool.and_eq_true] at hl
      have hi : i < A.length := by simpa [Nat.blt_eq] using hl.1
      have e1 : pk A (i :: is) = A[i] :: pk A is := by simp [pk, List.getElem?_eq_getElem hi]
      rw [e1] at h
      cases j with
      | zero => exact ⟨i, rfl, by simpa [List.getElem?_eq_getElem hi] using h⟩
      | succ j => exact ih hl.2 j r (by simpa using h)
  have hmem : ∀ j i : Nat, is[j]? = some i → i < A.length := fun j i h => by
    have := List.all_eq_true.1 hl i (List.mem_of_getElem? h)
    simpa [Nat.blt_eq] using this
  have hinj : ∀ a b i : Nat, is[a]? = some i → is[b]? = some i → a = b := by
    intro a b i ha hb
    obtain ⟨ha1, ha2⟩ := List.getElem?_eq_some_iff.1 ha
    obtain ⟨hb1, hb2⟩ := List.getElem?_eq_some_iff.1 hb
    have hp := List.pairwise_iff_getElem.1 hn
    rcases Nat.lt_trichotomy a b with h | h | h
    · exact absurd (ha2.trans hb2.symm) (hp a b ha1 hb1 h)
    · exact h
    · exact absurd (hb2.trans ha2.symm) (hp b a hb1 ha1 h)
  let g : Nat → Option Nat := fun j => if j < is.length then is[j]? else some (j - is.length + A.length)
  have ginj : ∀ a b i, g a = some i → g b = some i → a = b := by
    intro a b i ha hb
    simp only [g] at ha hb
    split at ha <;> split at hb
    · exact hinj a b i ha hb
    · have := hmem a i ha; simp at hb; omega
    · have := hmem b i hb; simp at ha; omega
    · simp at ha hb; omega
  refine ⟨st.os, st.tape, st.output, st.size, st.dom, st.old, fun j k => ∃ i, g j = some i ∧ F i k, ?_, ?_, ?_⟩
  · intro j r hr
    have : ∃ i : Nat, g j = some i ∧ (A ++ L)[i]? = some r := by
      rw [List.getElem?_append] at hr
      split at hr
      · rename_i hj
        obtain ⟨i, hi, hA⟩ := hget j r hr
        exact ⟨i, by simp only [g]; rw [if_pos (by omega)]; exact hi, by rw [List.getElem?_append_left (hmem j i hi)]; exact hA⟩
      · rename_i hj
        refine ⟨j - is.length + A.length, by simp only [g]; rw [if_neg (by omega)], ?_⟩
        rw [List.getElem?_append_right (by omega), ← hr]
        congr 1; omega
    obtain ⟨i, hi, hr⟩ := this
    have e : (fun k => ∃ i, g j = some i ∧ F i k) = F i := by
      funext k
      exact propext ⟨fun ⟨i', h', hf⟩ => by rw [hi] at h'; cases h'; exact hf, fun hf => ⟨i, hi, hf⟩⟩
    show r.P w (fun k => ∃ i, g j = some i ∧ F i k)
    rw [e]
    exact h1 i r hr
  · rintro a b k hab ⟨i, hi, hf⟩ ⟨i', hi', hf'⟩
    exact h2 i i' k (fun e => hab (ginj a b i hi (e ▸ hi'))) hf hf'
  · rintro j k ⟨i, _, hf⟩
    exact h3 i k hf
end

section
variable {P : Program} {Q : QP} {ρ : Env} {w : World} {next : Env → World → Prop} {I : Nat → Env → World → Prop} {m id id' : Nat}
theorem thenQ_n (h : next ρ w) : thenQ next Q .normal ρ w := h
theorem thenQ_x (h : Q (.exit id) ρ w) : thenQ next Q (.exit id) ρ w := h
theorem thenQ_r (h : Q .ret ρ w) : thenQ next Q .ret ρ w := h
theorem thenQ_g (h : Q (.goto id) ρ w) : thenQ next Q (.goto id) ρ w := h
theorem blkQ_n (h : Q .normal ρ w) : blkQ id Q .normal ρ w := h
theorem blkQ_r (h : Q .ret ρ w) : blkQ id Q .ret ρ w := h
theorem blkQ_g {l : Nat} (h : Q (.goto l) ρ w) : blkQ id Q (.goto l) ρ w := h
theorem blkQ_hit (h : Q .normal ρ w) : blkQ id Q (.exit id) ρ w := by simpa [blkQ] using h
theorem blkQ_miss (hne : Nat.beq id' id = false) (h : Q (.exit id') ρ w) : blkQ id Q (.exit id') ρ w := by
  have : id' ≠ id := fun e => by subst e; rw [Nat.beq_refl] at hne; cases hne
  simpa [blkQ, this] using h
theorem loopQ_n (m' : Nat) (hm : m' < m) (h : I m' ρ w) : loopQ I m Q .normal ρ w := ⟨m', hm, h⟩
theorem loopQ_x (h : Q (.exit id) ρ w) : loopQ I m Q (.exit id) ρ w := h
theorem loopQ_r (h : Q .ret ρ w) : loopQ I m Q .ret ρ w := h
theorem loopQ_g {l : Nat} (h : Q (.goto l) ρ w) : loopQ I m Q (.goto l) ρ w := h
end
theorem bT {p : Prop} [Decidable p] (h : p) : Value.bool (decide p) = Value.bool true := by rw [decide_eq_true h]
theorem bF {p : Prop} [Decidable p] (h : ¬ p) : Value.bool (decide p) = Value.bool false := by rw [decide_eq_false h]
theorem nF {b : Bool} (h : ¬ b = true) : Value.bool b = Value.bool false := by rw [Bool.eq_false_iff.2 h]
/-! short names -/
abbrev vs (n : UInt8) : Value := .string ⟨#[n]⟩
abbrev ve : Value := .string ⟨#[]⟩
abbrev vn : Value := .slice none 0 0
abbrev ni (n : Nat) : Value := .int .i64 (n : Int)
abbrev ii (n : Int) : Value := .int .i64 n
abbrev pt (b k : Nat) : Value := .pointer (some ⟨b, k, none⟩)
section
variable {P : Program} {n : Nat} {Q Q' : QP} {ρ : Env} {w : World}
theorem W1 {ops : Array Oper} {rest : List Oper} {d : Nat} {op : Op} {ty : TypeId} {pos : String} {after : Array Edge}
    (h : OpT P ⟨some d, op, ty, pos, after, none⟩ ρ w (fun v w' => WL P n ops Q rest (upd ρ d v) w')) (hd : Nat.blt d n = true := by rfl) : WL P n ops Q (⟨some d, op, ty, pos, after, none⟩ :: rest) ρ w := WL.step hd h
theorem W2 {ops : Array Oper} {rest : List Oper} {d : Nat} {op : Op} {ty : TypeId} {pos : String} {after : Array Edge} {j dj : Nat} {b : Bool} (hv : ρ dj = .bool b)
    (h : OpT P ⟨some d, op, ty, pos, after, some (j, b)⟩ ρ w (fun v w' => WL P n ops Q rest (upd ρ d v) w')) (hd : Nat.blt d n = true := by rfl) (hj : (ops[j]?).bind (·.dst) = some dj := by rfl) (hdj : Nat.blt dj n = true := by rfl) : WL P n ops Q (⟨some d, op, ty, pos, after, some (j, b)⟩ :: rest) ρ w := WL.stepG hd hj hdj hv h
theorem Wsr {id : Nat} {l : List Oper} {y : Code} (h : WL P n l.toArray (thenQ (WC P n y Q) Q) l ρ w) : WC P n (.seq (.region id l.toArray false) y) Q ρ w := WC.seq (WC.region h)
theorem Wnt {ops : Array Oper} {next : Env → World → Prop} (h : next ρ w) : WL P n ops (thenQ next Q) [] ρ w := WL.nil (thenQ_n h)
theorem Wns {ops : Array Oper} {id : Nat} {l : List Oper} {y : Code} (h : WL P n l.toArray (thenQ (WC P n y Q) Q) l ρ w) : WL P n ops (thenQ (WC P n (.seq (.region id l.toArray false) y) Q) Q') [] ρ w := Wnt (Wsr h)
theorem Wnr {ops : Array Oper} {id : Nat} {l : List Oper} (h : WL P n l.toArray Q l ρ w) : WL P n ops (thenQ (WC P n (.region id l.toArray false) Q) Q') [] ρ w := Wnt (WC.region h)
end
end Go.Eng
