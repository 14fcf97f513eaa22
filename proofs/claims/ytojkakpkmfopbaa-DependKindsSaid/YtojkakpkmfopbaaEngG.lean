/-
  The engine, part G: a region that draws its order: the first n operations in whatever order their edges allow, each by its own obligation; the rest in one forced order.
-/
import Derived.Test.YtojkakpkmfopbaaEngF
import Derived.StillTail
namespace Go.Eng
open Go.RowKit

section
variable {Z : Nat → Prop} {w0 w : World} {L L' : List Res}
theorem perm_map {l1 l2 : List Res} (h : l1.Perm l2) : ∃ σ : Nat → Nat, (∀ i j, σ i = σ j → i = j) ∧ ∀ (j : Nat), l2[j]? = l1[σ j]? := by
  induction h with
  | nil => exact ⟨id, fun _ _ h => h, fun _ => rfl⟩
  | cons x _ ih =>
    obtain ⟨σ, h1, h2⟩ := ih
    refine ⟨fun i => match i with | 0 => 0 | i + 1 => σ i + 1, ?_, ?_⟩
    · intro i j h
      cases i <;> cases j <;> simp at h ⊢
      exact h1 _ _ h
    · intro j
      cases j with
      | zero => rfl
      | succ j => simpa using h2 j
  | swap x y l =>
    refine ⟨fun i => match i with | 0 => 1 | 1 => 0 | i + 2 => i + 2, ?_, ?_⟩
    · intro i j h
      match i, j with
      | 0, 0 => rfl
      | 0, 1 => simp at h
      | 0, j + 2 => simp at h
      | 1, 0 => simp at h
      | 1, 1 => rfl
      | 1, j + 2 => simp at h
      | i + 2, 0 => simp at h
      | i + 2, 1 => simp at h
      | i + 2, j + 2 => simpa using h
    · intro j
      match j with
      | 0 => rfl
      | 1 => rfl
      | j + 2 => rfl
  | trans _ _ ih1 ih2 =>
    obtain ⟨σ, h1, h2⟩ := ih1
    obtain ⟨τ, g1, g2⟩ := ih2
    exact ⟨fun j => σ (τ j), fun i j h => g1 _ _ (h1 _ _ h), fun j => (g2 j).trans (h2 (τ j))⟩
theorem St.perm (h : L.Perm L') (st : St Z w0 w L) : St Z w0 w L' := by
  obtain ⟨σ, hi, hg⟩ := perm_map h
  obtain ⟨F, h1, h2, h3⟩ := st.sep
  exact ⟨st.os, st.tape, st.output, st.size, st.dom, st.old, fun j => F (σ j), fun j r hr => h1 (σ j) r (by rw [← hg]; exact hr), fun i j k hij => h2 _ _ k (fun e => hij (hi _ _ e)), fun j k => h3 (σ j) k⟩
end

def updO (ρ : Env) : Option Tmp → Value → Env
  | some d, v => upd ρ d v
  | none, _ => ρ
/-- One operation by itself, said as a list of one. -/
def oneQ (ρ : Env) (d : Option Tmp) (K : Value → World → Prop) : QP := fun ex ρ' w' => ex = .normal ∧ ∃ v, ρ' = updO ρ d v ∧ K v w'
theorem oneQ.mk {ρ : Env} {d : Tmp} {K : Value → World → Prop} {v : Value} {w : World} (h : K v w) : oneQ ρ (some d) K .normal (upd ρ d v) w := ⟨rfl, v, rfl, h⟩
theorem oneQ.mkN {ρ : Env} {K : Value → World → Prop} {w : World} (v : Value) (h : K v w) : oneQ ρ none K .normal ρ w := ⟨rfl, v, rfl, h⟩

def dstOf (l : List Oper) (i : Nat) : Option Tmp := (l[i]?).bind (·.dst)
def depOf (l : List Oper) (i j : Nat) : Bool := match l[i]? with | some o => o.after.toList.any (fun e => Region.binds .any e && e.on == j) | none => false
/-- The head's conditions on the text alone. -/
def headB (m : Nat) (l : List Oper) (n : Nat) : Bool :=
  Nat.ble n l.length &&
  (List.range n).all (fun i => (match l[i]? with | some o => o.after.all (fun e => !Region.binds .any e || Nat.blt e.on i) && (match o.dst with | some d => Nat.blt d m | none => true) | none => false)) &&
  (List.range n).all (fun i => (List.range n).all (fun j => Nat.beq i j || (match dstOf l i, dstOf l j with | some a, some b => !Nat.beq a b | _, _ => true))) &&
  (Nat.beq n l.length || (Region.sinkB .any l.toArray n && Region.chainB .any l.toArray n)) &&
  Region.seqB .any l.toArray (l.drop n).length n ((List.range l.length).map (fun j => Nat.blt j n)).toArray

def flat (D : Nat → Value → List Res) (on : Nat → Bool) (vals : Nat → Value) (is : List Nat) : List Res := is.flatMap (fun i => if on i then D i (vals i) else [])
theorem flat_same {D : Nat → Value → List Res} {on on' : Nat → Bool} {vals vals' : Nat → Value} {is : List Nat} (h : ∀ j ∈ is, on' j = on j ∧ vals' j = vals j) : flat D on' vals' is = flat D on vals is := by
  induction is with
  | nil => rfl
  | cons j js ih =>
    have hj := h j (by simp)
    simp only [flat, List.flatMap_cons] at ih ⊢
    rw [hj.1, hj.2, ih (fun k hk => h k (by simp [hk]))]
theorem flat_put {D : Nat → Value → List Res} {on : Nat → Bool} {vals : Nat → Value} {is : List Nat} {i : Nat} {v : Value} (hn : is.Nodup) (hi : i ∈ is) (ho : on i = false) :
    (D i v ++ flat D on vals is).Perm (flat D (fun j => if j = i then true else on j) (fun j => if j = i then v else vals j) is) := by
  induction is with
  | nil => cases hi
  | cons j js ih =>
    have hnj := List.nodup_cons.1 hn
    by_cases hji : j = i
    · subst hji
      have e : flat D (fun k => if k = j then true else on k) (fun k => if k = j then v else vals k) js = flat D on vals js := flat_same (fun k hk => by
        have : k ≠ j := fun h => hnj.1 (h ▸ hk)
        simp [this])
      simp only [flat, List.flatMap_cons] at e ⊢
      simp only [ho, Bool.false_eq_true, if_false, List.nil_append, if_true]
      rw [e]
    · have hi' : i ∈ js := by
        rcases List.mem_cons.1 hi with h | h
        · exact absurd h.symm hji
        · exact h
      have ih' := ih hnj.2 hi'
      simp only [flat, List.flatMap_cons] at ih' ⊢
      simp only [hji, if_false]
      refine List.Perm.trans ?_ (List.Perm.append_left _ ih')
      rw [← List.append_assoc, ← List.append_assoc]
      exact List.Perm.append_right _ List.perm_append_comm

section
variable {P : Program} {m n : Nat} {l : List Oper} {Q : QP} {Z : Nat → Prop} {w0 : World} {L : List Res}

structure DInv (m : Nat) (l : List Oper) (n : Nat) (Z : Nat → Prop) (w0 : World) (L : List Res) (F : Nat → Value → Prop) (D : Nat → Value → List Res) (ρ0 : Env) (listed : Array Bool) (vals : Nat → Value) (ρ : Env) (w : World) : Prop where
  inv : HeadInv .any l.toArray n listed
  val : ∀ i, i < n → listed.getD i false = true → F i (vals i) ∧ ∀ d, dstOf l i = some d → ρ d = vals i
  old : ∀ t, (∀ i, i < n → dstOf l i ≠ some t) → ρ t = ρ0 t
  st : St Z w0 w (flat D (fun i => listed.getD i false) vals (List.range n) ++ L)

theorem wpOp_of_WL {i : Nat} {o : Oper} {a : Act} {ρ : Env} {w : World} {K : Value → World → Prop} {K' : Act → World → Prop} {Q' : Exit → Act → World → Prop} {ops : Array Oper} (hi : ops[i]? = some o) (ha : Fr a m ρ)
    (h : WL P m ops (oneQ ρ o.dst K) [o] ρ w) (hK : ∀ v a' w', Fr a' m (updO ρ o.dst v) → K v w' → K' a' w') : wpOp P ops Q' i K' a w := by
  have h1 := h a ha
  unfold wpOp
  simp only [hi]
  have hend : ∀ a' w', wpList P ops (lft m (oneQ ρ o.dst K)) [] a' w' → K' a' w' := by
    rintro a' w' ⟨ρ', hf, _, v, rfl, hk⟩
    exact hK v a' w' hf hk
  unfold wpList at h1
  split at h1
  · rename_i hw
    rw [if_pos hw]
    rcases h1 with h1 | ⟨_, a0, w0, ρ', _, h3, _⟩
    · left
      unfold Oper.wp at *
      exact upon_mono h1 hend (fun e a w hne ⟨ρ', hf, hq⟩ => absurd hq.1 hne)
    · cases h3
  · rename_i hw
    rw [if_neg hw]
    exact hend _ _ h1

theorem dinv_ready {F : Nat → Value → Prop} {D : Nat → Value → List Res} {ρ0 : Env} {listed : Array Bool} {vals : Nat → Value} {ρ : Env} {w : World} (hB : headB m l n = true) (I : DInv m l n Z w0 L F D ρ0 listed vals ρ w)
    (hun : ∃ i, i < n ∧ listed.getD i false = false) : (∃ i, i ∈ Region.ready .any l.toArray listed) ∧ ∀ i ∈ Region.ready .any l.toArray listed, i < n := by
  simp only [headB, Bool.and_eq_true] at hB
  obtain ⟨⟨⟨⟨h1, h2⟩, _⟩, h4⟩, _⟩ := hB
  have hnl : n ≤ l.length := by simpa [Nat.ble_eq] using h1
  obtain ⟨i, hi, hu⟩ := least_of hun
  obtain ⟨hin, hil⟩ := hi
  have hsz : listed.size = l.length := by rw [I.inv.size]; simp
  constructor
  · refine ⟨i, mem_ready.2 ⟨getD_in (by omega) hil, ?_⟩⟩
    have h2i := List.all_eq_true.1 h2 i (List.mem_range.2 hin)
    have hlt : i < l.length := by omega
    rw [List.getElem?_eq_getElem hlt] at h2i
    refine ⟨l[i], by simp [hlt], fun e he hb => ?_⟩
    simp only [Bool.and_eq_true] at h2i
    have := Array.all_eq_true_iff_forall_mem.1 h2i.1 e he
    simp only [hb, Bool.not_true, Bool.false_or, Nat.blt_eq] at this
    cases hg : listed.getD e.on false with
    | true => rfl
    | false => have := hu e.on ⟨by omega, hg⟩; omega
  · intro t ht
    rcases Nat.lt_or_ge t n with h | h
    · exact h
    · exfalso
      obtain ⟨_, o, ho, _⟩ := mem_ready.1 ht
      have htl : t < l.length := by simpa using (Array.getElem?_eq_some_iff.1 ho).1
      simp only [Bool.or_eq_true, Bool.and_eq_true] at h4
      rcases h4 with h4 | ⟨hs, hc⟩
      · have : n = l.length := Nat.eq_of_beq_eq_true h4
        omega
      · exact tail_waits hs hc (by simp; omega) I.inv _ i rfl hin (getD_in (by omega) hil) t h ht

theorem dinv_step {F : Nat → Value → Prop} {D : Nat → Value → List Res} {ρ0 : Env} {listed : Array Bool} {vals : Nat → Value} {ρ : Env} {w w' : World} (hB : headB m l n = true) (I : DInv m l n Z w0 L F D ρ0 listed vals ρ w) {i : Nat} (hin : i < n)
    (hr : i ∈ Region.ready .any l.toArray listed) {v : Value} (hF : F i v) (hst : St Z w0 w' (D i v ++ (flat D (fun i => listed.getD i false) vals (List.range n) ++ L))) :
    DInv m l n Z w0 L F D ρ0 (listed.setIfInBounds i true) (fun j => if j = i then v else vals j) (updO ρ (dstOf l i) v) w' := by
  have hun := (mem_ready.1 hr).1
  have hsz : listed.size = l.length := by rw [I.inv.size]; simp
  have hil : i < listed.size := by
    rcases Nat.lt_or_ge i listed.size with h | h
    · exact h
    · simp [Array.getElem?_eq_none h] at hun
  simp only [headB, Bool.and_eq_true] at hB
  obtain ⟨⟨⟨⟨_, _⟩, h3⟩, _⟩, _⟩ := hB
  have hdist : ∀ j, j < n → j ≠ i → ∀ d, dstOf l j = some d → dstOf l i ≠ some d := by
    intro j hj hji d hd hd2
    have h := List.all_eq_true.1 (List.all_eq_true.1 h3 i (List.mem_range.2 hin)) j (List.mem_range.2 hj)
    rw [hd, hd2] at h
    simp only [Nat.beq_refl, Bool.not_true, Bool.or_false] at h
    exact hji (Nat.eq_of_beq_eq_true h).symm
  have hget : ∀ d j, updO ρ d v j = if d = some j then v else ρ j := by
    intro d j
    cases d with
    | none => simp [updO]
    | some d =>
      simp only [updO, upd, Option.some.injEq]
      by_cases h : j = d
      · subst h; simp
      · have : Nat.beq j d = false := by
          cases hb : Nat.beq j d
          · rfl
          · exact absurd (Nat.eq_of_beq_eq_true hb) h
        rw [this, if_neg (Ne.symm h)]
        rfl
  refine ⟨I.inv.set hr hin, ?_, ?_, ?_⟩
  · intro j hj hl
    by_cases hji : j = i
    · subst hji
      simp only [if_true]
      exact ⟨hF, fun d hd => by rw [hget, if_pos hd]⟩
    · simp only [hji, if_false]
      rw [getD_set_ne false (Ne.symm hji)] at hl
      obtain ⟨h1, h2⟩ := I.val j hj hl
      refine ⟨h1, fun d hd => ?_⟩
      rw [hget, if_neg (hdist j hj hji d hd)]
      exact h2 d hd
  · intro t ht
    rw [hget, if_neg (ht i hin)]
    exact I.old t ht
  · have hp := flat_put (D := D) (on := fun i => listed.getD i false) (vals := vals) (v := v) (is := List.range n) List.nodup_range (List.mem_range.2 hin) (getD_both hun)
    have st1 := St.perm (L' := flat D (fun j => if j = i then true else listed.getD j false) (fun j => if j = i then v else vals j) (List.range n) ++ L) (by rw [← List.append_assoc]; exact List.Perm.append_right L hp) hst
    have e : (fun j => (listed.setIfInBounds i true).getD j false) = (fun j => if j = i then true else listed.getD j false) := by
      funext j
      by_cases hji : j = i
      · subst hji; simp [hil]
      · rw [getD_set_ne false (Ne.symm hji)]; simp [hji]
    rw [e]
    exact st1

theorem draw_any {F : Nat → Value → Prop} {D : Nat → Value → List Res} {ρ0 : Env} {Q : QP} (hB : headB m l n = true)
    (hop : ∀ i o, i < n → l[i]? = some o → ∀ (vals : Nat → Value) (ρ : Env) (w : World) (X : List Res), (∀ j, depOf l i j = true → F j (vals j) ∧ ∀ d, dstOf l j = some d → ρ d = vals j) → (∀ t, (∀ i, i < n → dstOf l i ≠ some t) → ρ t = ρ0 t) → St Z w0 w (X ++ L) →
      WL P m l.toArray (oneQ ρ o.dst (fun v w' => F i v ∧ St Z w0 w' (D i v ++ (X ++ L)))) [o] ρ w)
    (hend : ∀ (vals : Nat → Value) (ρ : Env) (w : World), (∀ i, i < n → F i (vals i) ∧ ∀ d, dstOf l i = some d → ρ d = vals i) → (∀ t, (∀ i, i < n → dstOf l i ≠ some t) → ρ t = ρ0 t) → St Z w0 w (flat D (fun _ => true) vals (List.range n) ++ L) →
      WL P m l.toArray Q (l.drop n) ρ w) :
    ∀ (k : Nat) (listed : Array Bool) (vals : Nat → Value) (ρ : Env) (w : World) (a : Act), ((List.range n).filter (fun i => !listed.getD i false)).length = k → Fr a m ρ → DInv m l n Z w0 L F D ρ0 listed vals ρ w →
      wpAny P .any l.toArray (lft m Q) (k + (l.drop n).length) listed a w := by
  intro k
  induction k with
  | zero =>
    intro listed vals ρ w a hk ha I
    have hall : ∀ i, i < n → listed.getD i false = true := by
      intro i hi
      have := List.length_eq_zero_iff.1 hk
      have h2 := List.filter_eq_nil_iff.1 this i (List.mem_range.2 hi)
      simpa using h2
    have hB' := hB
    simp only [headB, Bool.and_eq_true] at hB'
    obtain ⟨⟨⟨⟨h1, _⟩, _⟩, _⟩, h5⟩ := hB'
    have hnl : n ≤ l.length := by simpa [Nat.ble_eq] using h1
    have hsz : listed.size = l.length := by rw [I.inv.size]; simp
    have hcan : listed = ((List.range l.length).map (fun j => Nat.blt j n)).toArray := by
      apply Array.ext
      · simp [hsz]
      · intro j hj hj2
        have hjl : j < l.length := by omega
        simp only [List.getElem_toArray, List.getElem_map, List.getElem_range]
        by_cases hjn : j < n
        · have := hall j hjn
          have e : Nat.blt j n = true := by simpa [Nat.blt_eq] using hjn
          rw [e]
          simpa [hj] using this
        · have := I.inv.tail j (by omega) (by simpa using hjl)
          have e : Nat.blt j n = false := by
            cases hb : Nat.blt j n
            · rfl
            · simp [Nat.blt_eq] at hb; omega
          rw [e]
          simpa [hj] using this
    rw [Nat.zero_add]
    refine wpAny_of_seq (l.drop n) n listed a w (fun j => by simp [List.getElem?_drop]) (by rw [hcan]; exact h5) ?_
    refine hend vals ρ w (fun i hi => I.val i hi (hall i hi)) I.old ?_ a ha
    have e : flat D (fun i => listed.getD i false) vals (List.range n) = flat D (fun _ => true) vals (List.range n) := flat_same (fun j hj => ⟨hall j (List.mem_range.1 hj), rfl⟩)
    rw [← e]
    exact I.st
  | succ k ih =>
    intro listed vals ρ w a hk ha I
    have hun : ∃ i, i < n ∧ listed.getD i false = false := by
      have : 0 < ((List.range n).filter (fun i => !listed.getD i false)).length := by omega
      obtain ⟨i, hi⟩ := List.exists_mem_of_length_pos this
      obtain ⟨h1, h2⟩ := List.mem_filter.1 hi
      exact ⟨i, List.mem_range.1 h1, by simpa using h2⟩
    obtain ⟨⟨i0, hi0⟩, hlt⟩ := dinv_ready hB I hun
    rw [show k + 1 + (l.drop n).length = (k + (l.drop n).length) + 1 by omega]
    refine ⟨fun h => (by rw [h] at hi0; cases hi0), fun i hi => ?_⟩
    have hin := hlt i hi
    obtain ⟨hiu, o, ho, hdeps⟩ := mem_ready.1 hi
    have ho' : l[i]? = some o := by simpa using ho
    refine wpOp_of_WL ho ha (hop i o hin ho' vals ρ w (flat D (fun i => listed.getD i false) vals (List.range n)) ?_ I.old I.st) ?_
    · intro j hj
      unfold depOf at hj
      rw [ho'] at hj
      obtain ⟨e, he, hb⟩ := List.any_eq_true.1 hj
      have he := Array.mem_toList_iff.1 he
      simp only [Bool.and_eq_true, beq_iff_eq] at hb
      have hlj := hdeps e he hb.1
      rw [hb.2] at hlj
      refine I.val j ?_ hlj
      have hB' := hB
      simp only [headB, Bool.and_eq_true] at hB'
      have h2i := List.all_eq_true.1 hB'.1.1.1.2 i (List.mem_range.2 hin)
      rw [ho'] at h2i
      simp only [Bool.and_eq_true] at h2i
      have := Array.all_eq_true_iff_forall_mem.1 h2i.1 e he
      simp only [hb.1, Bool.not_true, Bool.false_or, Nat.blt_eq] at this
      omega
    · rintro v a' w' hf ⟨hF, hst⟩
      have hd : o.dst = dstOf l i := by simp [dstOf, ho']
      rw [hd] at hf
      refine ih (listed.setIfInBounds i true) _ _ w' a' ?_ hf (dinv_step hB I hin hi hF hst)
      have hset : ∀ j, j ≠ i → (listed.setIfInBounds i true).getD j false = listed.getD j false := fun j hj => getD_set_ne false (Ne.symm hj)
      have hii : (listed.setIfInBounds i true).getD i false = true := by
        have hil : i < listed.size := by
          rcases Nat.lt_or_ge i listed.size with h | h
          · exact h
          · simp [Array.getElem?_eq_none h] at hiu
        simp [hil]
      have key : ∀ is : List Nat, is.Nodup → i ∈ is → (is.filter (fun j => !(listed.setIfInBounds i true).getD j false)).length + 1 = (is.filter (fun j => !listed.getD j false)).length := by
        intro is
        induction is with
        | nil => intro _ h; cases h
        | cons j js ihj =>
          intro hn hm
          have hnd := List.nodup_cons.1 hn
          by_cases hji : j = i
          · subst hji
            have e : js.filter (fun k => !(listed.setIfInBounds j true).getD k false) = js.filter (fun k => !listed.getD k false) := List.filter_congr (fun k hk => by
              have : k ≠ j := fun h => hnd.1 (h ▸ hk)
              rw [hset k this])
            rw [List.filter_cons, List.filter_cons, hii, getD_both hiu, e]
            simp
          · have hm' : i ∈ js := by
              rcases List.mem_cons.1 hm with h | h
              · exact absurd h.symm hji
              · exact h
            have := ihj hnd.2 hm'
            rw [List.filter_cons, List.filter_cons, hset j hji]
            split
            · rw [List.length_cons, List.length_cons, ← this]
            · exact this
      have := key (List.range n) List.nodup_range (List.mem_range.2 hin)
      omega

theorem WC.draw0 {id : Nat} {ρ0 : Env} {w : World} (n : Nat) (F : Nat → Value → Prop) (D : Nat → Value → List Res) (st : St Z w0 w L) (hm : P.follows .mixedOrders = true) (hB : headB m l n = true)
    (hop : ∀ i o, i < n → l[i]? = some o → ∀ (vals : Nat → Value) (ρ : Env) (w : World) (X : List Res), (∀ j, depOf l i j = true → F j (vals j) ∧ ∀ d, dstOf l j = some d → ρ d = vals j) → (∀ t, (∀ i, i < n → dstOf l i ≠ some t) → ρ t = ρ0 t) → St Z w0 w (X ++ L) →
      WL P m l.toArray (oneQ ρ o.dst (fun v w' => F i v ∧ St Z w0 w' (D i v ++ (X ++ L)))) [o] ρ w)
    (hend : ∀ (vals : Nat → Value) (ρ : Env) (w : World), (∀ i, i < n → F i (vals i) ∧ ∀ d, dstOf l i = some d → ρ d = vals i) → (∀ t, (∀ i, i < n → dstOf l i ≠ some t) → ρ t = ρ0 t) → St Z w0 w (flat D (fun _ => true) vals (List.range n) ++ L) →
      WL P m l.toArray Q (l.drop n) ρ w) : WC P m (.region id l.toArray true) Q ρ0 w := by
  intro a ha
  refine wp_region_any hm ?_
  have hB' := hB
  simp only [headB, Bool.and_eq_true] at hB'
  have hnl : n ≤ l.length := by simpa [Nat.ble_eq] using hB'.1.1.1.1
  have e0 : ∀ j, (Array.replicate l.toArray.size false).getD j false = false := fun j => getD_replicate_false _ _
  have h0 : DInv m l n Z w0 L F D ρ0 (Array.replicate l.toArray.size false) (fun _ => undef) ρ0 w.drew := by
    refine ⟨⟨by simp, fun j oj _ hl => (by rw [e0] at hl; cases hl), fun t _ ht => getD_in (by simpa using ht) (e0 t)⟩, fun i _ hl => (by rw [e0] at hl; cases hl), fun _ _ => rfl, ?_⟩
    have : flat D (fun i => (Array.replicate l.toArray.size false).getD i false) (fun _ => undef) (List.range n) = [] := by
      unfold flat
      rw [List.flatMap_eq_nil_iff]
      intro j _
      show (if (Array.replicate l.toArray.size false).getD j false = true then D j undef else []) = []
      rw [e0]; rfl
    rw [this]
    exact st.drew
  have := draw_any (P := P) (Q := Q) hB hop hend n (Array.replicate l.toArray.size false) (fun _ => undef) ρ0 w.drew a (by
    rw [List.filter_eq_self.2 (fun j _ => by rw [e0]; rfl)]; simp) ha h0
  have el : n + (l.drop n).length = l.toArray.size := by simp; omega
  rw [el] at this
  exact this
def nodst (l : List Oper) (n t : Nat) : Bool := (List.range n).all (fun i => match dstOf l i with | some d => !Nat.beq d t | none => true)
theorem nodst_spec {l : List Oper} {n t : Nat} (h : nodst l n t = true) : ∀ i, i < n → dstOf l i ≠ some t := by
  intro i hi e
  have := List.all_eq_true.1 h i (List.mem_range.2 hi)
  rw [e] at this
  simp at this
/-- What is owed of operation i. -/
def Ob (P : Program) (m : Nat) (l : List Oper) (n : Nat) (F : Nat → Value → Prop) (D : Nat → Value → List Res) (Z : Nat → Prop) (w0 : World) (L : List Res) (ρ0 : Env) (i : Nat) : Prop :=
  ∀ (vals : Nat → Value) (ρ : Env) (w : World) (X : List Res), (∀ j, depOf l i j = true → F j (vals j) ∧ ∀ d, dstOf l j = some d → ρ d = vals j) → (∀ t, nodst l n t = true → ρ t = ρ0 t) → St Z w0 w (L ++ X) →
    match l[i]? with | some o => WL P m l.toArray (oneQ ρ o.dst (fun v w' => F i v ∧ St Z w0 w' (D i v ++ (L ++ X)))) [o] ρ w | none => False
theorem ob0 {p : Nat → Prop} : ∀ i, i < 0 → p i := fun _ h => absurd h (Nat.not_lt_zero _)
theorem obS {p : Nat → Prop} {n : Nat} (h : ∀ i, i < n → p i) (hn : p n) : ∀ i, i < n + 1 → p i := fun i hi => by
  rcases Nat.lt_succ_iff_lt_or_eq.1 hi with h' | rfl
  · exact h i h'
  · exact hn

/-- THE RULE. -/
theorem WC.draw {id : Nat} {ρ0 : Env} {w : World} (n : Nat) (F : Nat → Value → Prop) (D : Nat → Value → List Res) (st : St Z w0 w L) (hm : P.follows .mixedOrders = true) (hB : headB m l n = true)
    (hop : ∀ i, i < n → Ob P m l n F D Z w0 L ρ0 i)
    (hend : ∀ (vals : Nat → Value) (ρ : Env) (w : World), (∀ i, Nat.blt i n = true → F i (vals i) ∧ ∀ d, dstOf l i = some d → ρ d = vals i) → (∀ t, nodst l n t = true → ρ t = ρ0 t) → St Z w0 w (flat D (fun _ => true) vals (List.range n) ++ L) →
      WL P m l.toArray Q (l.drop n) ρ w) : WC P m (.region id l.toArray true) Q ρ0 w := by
  have old : ∀ {ρ : Env}, (∀ t, (∀ i, i < n → dstOf l i ≠ some t) → ρ t = ρ0 t) → ∀ t, nodst l n t = true → ρ t = ρ0 t := fun h t ht => h t (nodst_spec ht)
  refine WC.draw0 n F D st hm hB ?_ (fun vals ρ w h1 h2 h3 => hend vals ρ w (fun i hi => h1 i (by simpa [Nat.blt_eq] using hi)) (old h2) h3)
  intro i o hi ho vals ρ w X hd h0 hst
  have h := hop i hi vals ρ w X hd (old h0) (St.perm List.perm_append_comm hst)
  rw [ho] at h
  change WL P m l.toArray (oneQ ρ o.dst (fun v w' => F i v ∧ St Z w0 w' (D i v ++ (L ++ X)))) [o] ρ w at h
  intro a ha
  have e : (oneQ ρ o.dst (fun v w' => F i v ∧ St Z w0 w' (D i v ++ (L ++ X)))) = (oneQ ρ o.dst (fun v w' => F i v ∧ St Z w0 w' (D i v ++ (X ++ L)))) := by
    funext ex ρ' w'
    apply propext
    constructor
    · rintro ⟨h1, v, h2, h3, h4⟩
      exact ⟨h1, v, h2, h3, St.perm (List.Perm.append_left _ List.perm_append_comm) h4⟩
    · rintro ⟨h1, v, h2, h3, h4⟩
      exact ⟨h1, v, h2, h3, St.perm (List.Perm.append_left _ List.perm_append_comm) h4⟩
  rw [e] at h
  exact h a ha
end
end Go.Eng
