/-
  Regions that draw, where an operation may use up a piece.
-/
import Derived.Test.YtojkakpkmfopbaaEngO
namespace Go.Eng
open Go.RowKit
def flE (E : Nat → List Res) (listed : Array Bool) (n : Nat) : List Res := flat (fun i _ => E i) (fun i => !listed.getD i false) (fun _ => undef) (List.range n)
theorem flE_nil {E : Nat → List Res} {listed : Array Bool} {n : Nat} (h : ∀ i, i < n → listed.getD i false = true) : flE E listed n = [] := by
  unfold flE flat
  rw [List.flatMap_eq_nil_iff]
  intro j hj
  show (if (!listed.getD j false) = true then E j else []) = []
  rw [h j (List.mem_range.1 hj)]; rfl
theorem flE_put {E : Nat → List Res} {listed : Array Bool} {n i : Nat} (hi : i < n) (hs : i < listed.size) (hu : listed.getD i false = false) : (flE E listed n).Perm (E i ++ flE E (listed.setIfInBounds i true) n) := by
  have h := flat_put (D := fun i _ => E i) (on := fun j => !(listed.setIfInBounds i true).getD j false) (vals := fun _ => undef) (is := List.range n) (i := i) (v := undef) List.nodup_range (List.mem_range.2 hi) (by simp [hs])
  refine List.Perm.trans (List.Perm.of_eq ?_) h.symm
  unfold flE
  have key : (fun j => !listed.getD j false) = (fun j => if j = i then true else !(listed.setIfInBounds i true).getD j false) := by
    funext j
    by_cases hj : j = i
    · subst hj; rw [if_pos rfl, hu]; rfl
    · rw [if_neg hj, getD_set_ne false (Ne.symm hj)]
  have key2 : (fun j => if j = i then undef else (fun _ : Nat => undef) j) = (fun _ : Nat => undef) := by funext j; simp
  rw [key, key2]
def uD (D : Nat → (Nat → Value) → Value → List Res) (u : Nat → Option Nat) (i : Nat) (vals : Nat → Value) : List Res := match u i with | some j => D j vals (vals j) | none => []
def uB (l : List Oper) (n : Nat) (u : Nat → Option Nat) : Bool := (List.range n).all (fun i => match u i with | some j => Nat.blt j n && ancB l n i j | none => true)
def offJ (o : Option Nat) (on : Nat → Bool) (j : Nat) : Bool := if o = some j then false else on j
theorem flat_take {D : Nat → Value → List Res} {on : Nat → Bool} {vals : Nat → Value} {n j : Nat} (hj : j < n) (hon : on j = true) : (flat D on vals (List.range n)).Perm (D j (vals j) ++ flat D (offJ (some j) on) vals (List.range n)) := by
  have h := flat_put (D := D) (on := offJ (some j) on) (vals := vals) (is := List.range n) (i := j) (v := vals j) List.nodup_range (List.mem_range.2 hj) (by simp [offJ])
  refine List.Perm.trans (List.Perm.of_eq ?_) h.symm
  refine flat_same (fun k _ => ?_)
  by_cases hk : k = j
  · subst hk; simp [hon]
  · have : ¬ j = k := fun e => hk e.symm
    simp [offJ, hk, this]
section
variable {P : Program} {m n : Nat} {l : List Oper} {Q : QP} {Z : Nat → Prop} {w0 : World} {L : List Res}
theorem St.nilAll {w : World} (st : St Z w0 w L) : St Z w0 w [] := St.sel [] rfl List.nodup_nil st
theorem flat_none {on : Nat → Bool} {vals : Nat → Value} {is : List Nat} : flat (fun _ _ => []) on vals is = [] := by
  unfold flat
  rw [List.flatMap_eq_nil_iff]
  intro j _
  split <;> rfl
theorem dinv_stepW {L2 X : List Res} {F : Nat → Value → Prop} {D : Nat → Value → List Res} {ρ0 : Env} {listed : Array Bool} {vals : Nat → Value} {ρ : Env} {w w' : World} (hB : headB m l n = true) (I : DInv m l n Z w0 L2 F D ρ0 listed vals ρ w) {i : Nat} (hin : i < n)
    (hr : i ∈ Region.ready .any l.toArray listed) {v : Value} (hF : F i v) (hst : St Z w0 w' (D i v ++ ((flat D (fun i => listed.getD i false) vals (List.range n) ++ X) ++ L))) :
    DInv m l n Z w0 (X ++ L) F D ρ0 (listed.setIfInBounds i true) (fun j => if j = i then v else vals j) (updO ρ (dstOf l i) v) w' := by
  have I0 : DInv m l n Z w0 [] F (fun _ _ => []) ρ0 listed vals ρ w := ⟨I.inv, I.val, I.old, by rw [flat_none]; exact I.st.nilAll⟩
  have I1 := dinv_step hB I0 hin hr hF (w' := w') (by rw [flat_none]; exact hst.nilAll)
  refine ⟨I1.inv, I1.val, I1.old, ?_⟩
  have hun := (mem_ready.1 hr).1
  have hil : i < listed.size := by
    rcases Nat.lt_or_ge i listed.size with h | h
    · exact h
    · simp [Array.getElem?_eq_none h] at hun
  have hp := flat_put (D := D) (on := fun j => listed.getD j false) (vals := vals) (is := List.range n) (v := v) List.nodup_range (List.mem_range.2 hin) (getD_both hun)
  have e : flat D (fun j => if j = i then true else listed.getD j false) (fun j => if j = i then v else vals j) (List.range n) = flat D (fun j => (listed.setIfInBounds i true).getD j false) (fun j => if j = i then v else vals j) (List.range n) := flat_same (fun j _ => by
    refine ⟨?_, rfl⟩
    by_cases hj : j = i
    · subst hj; simp [hil]
    · rw [if_neg hj, getD_set_ne false (Ne.symm hj)])
  rw [e] at hp
  refine St.perm ?_ hst
  rw [List.append_assoc, ← List.append_assoc]
  exact List.Perm.append_right _ hp
theorem drawW_any {F : Nat → (Nat → Value) → Value → Prop} {D : Nat → (Nat → Value) → Value → List Res} {E : Nat → List Res} {u : Nat → Option Nat} {ρ0 : Env} {Q : QP} (hB : headB m l n = true) (hU : uB l n u = true) (hFc : ∀ i vals vals' v, i < n → (∀ j, ancB l n i j = true → vals j = vals' j) → F i vals v → F i vals' v) (hDc : ∀ i vals vals' v, i < n → (∀ j, ancB l n i j = true → vals j = vals' j) → D i vals v = D i vals' v)
    (hop : ∀ i o, i < n → l[i]? = some o → ∀ (vals : Nat → Value) (ρ : Env) (w : World) (X : List Res), (∀ j, ancB l n i j = true → F j vals (vals j) ∧ ∀ d, dstOf l j = some d → ρ d = vals j) → (∀ t, (∀ i, i < n → dstOf l i ≠ some t) → ρ t = ρ0 t) → St Z w0 w (X ++ (E i ++ (uD D u i vals ++ L))) →
      WL P m l.toArray (oneQ ρ o.dst (fun v w' => F i vals v ∧ St Z w0 w' (D i vals v ++ (X ++ (uD D u i vals ++ L))))) [o] ρ w)
    (hend : ∀ (vals : Nat → Value) (ρ : Env) (w : World), (∀ i, i < n → F i vals (vals i) ∧ ∀ d, dstOf l i = some d → ρ d = vals i) → (∀ t, (∀ i, i < n → dstOf l i ≠ some t) → ρ t = ρ0 t) → St Z w0 w (flat (fun i v => D i vals v) (fun _ => true) vals (List.range n) ++ L) →
      WL P m l.toArray Q (l.drop n) ρ w) :
    ∀ (k : Nat) (listed : Array Bool) (vals : Nat → Value) (ρ : Env) (w : World) (a : Act), ((List.range n).filter (fun i => !listed.getD i false)).length = k → Fr a m ρ → DInv m l n Z w0 (flE E listed n ++ L) (fun i v => F i vals v) (fun i v => D i vals v) ρ0 listed vals ρ w →
      wpAny P .any l.toArray (lft m Q) (k + (l.drop n).length) listed a w := by
  intro k
  induction k with
  | zero =>
    intro listed vals ρ w a hk ha I
    have hall : ∀ i, i < n → listed.getD i false = true := by
      intro i hi
      have := List.length_eq_zero_iff.1 hk
      have h2 := List.filter_eq_nil_iff.1 this i (List.mem_range.2 hi)
      simpa using h2
    have hB' := hB
    simp only [headB, Bool.and_eq_true] at hB'
    obtain ⟨⟨⟨⟨h1, _⟩, _⟩, _⟩, h5⟩ := hB'
    have hnl : n ≤ l.length := by simpa [Nat.ble_eq] using h1
    have hsz : listed.size = l.length := by rw [I.inv.size]; simp
    have hcan : listed = ((List.range l.length).map (fun j => Nat.blt j n)).toArray := by
      apply Array.ext
      · simp [hsz]
      · intro j hj hj2
        have hjl : j < l.length := by omega
        simp only [List.getElem_toArray, List.getElem_map, List.getElem_range]
        by_cases hjn : j < n
        · have := hall j hjn
          have e : Nat.blt j n = true := by simpa [Nat.blt_eq] using hjn
          rw [e]
          simpa [hj] using this
        · have := I.inv.tail j (by omega) (by simpa using hjl)
          have e : Nat.blt j n = false := by
            cases hb : Nat.blt j n
            · rfl
            · simp [Nat.blt_eq] at hb; omega
          rw [e]
          simpa [hj] using this
    rw [Nat.zero_add]
    refine wpAny_of_seq (l.drop n) n listed a w (fun j => by simp [List.getElem?_drop]) (by rw [hcan]; exact h5) ?_
    refine hend vals ρ w (fun i hi => I.val i hi (hall i hi)) I.old ?_ a ha
    have e : flat (fun i v => D i vals v) (fun i => listed.getD i false) vals (List.range n) = flat (fun i v => D i vals v) (fun _ => true) vals (List.range n) := flat_same (fun j hj => ⟨hall j (List.mem_range.1 hj), rfl⟩)
    rw [← e]
    have hst := I.st
    rw [flE_nil (fun j hj => hall j hj), List.nil_append] at hst
    exact hst
  | succ k ih =>
    intro listed vals ρ w a hk ha I
    have hun : ∃ i, i < n ∧ listed.getD i false = false := by
      have : 0 < ((List.range n).filter (fun i => !listed.getD i false)).length := by omega
      obtain ⟨i, hi⟩ := List.exists_mem_of_length_pos this
      obtain ⟨h1, h2⟩ := List.mem_filter.1 hi
      exact ⟨i, List.mem_range.1 h1, by simpa using h2⟩
    obtain ⟨⟨i0, hi0⟩, hlt⟩ := dinv_ready hB I hun
    rw [show k + 1 + (l.drop n).length = (k + (l.drop n).length) + 1 by omega]
    refine ⟨fun h => (by rw [h] at hi0; cases hi0), fun i hi => ?_⟩
    have hin := hlt i hi
    obtain ⟨hiu, o, ho, hdeps⟩ := mem_ready.1 hi
    have ho' : l[i]? = some o := by simpa using ho
    have hiu0 : listed.getD i false = false := getD_both hiu
    have hils : i < listed.size := by
      rcases Nat.lt_or_ge i listed.size with h | h
      · exact h
      · simp [Array.getElem?_eq_none h] at hiu
    have hpE := flE_put (E := E) (n := n) (listed := listed) hin hils hiu0
    have hpU : (flat (fun i v => D i vals v) (fun i => listed.getD i false) vals (List.range n)).Perm (uD D u i vals ++ flat (fun i v => D i vals v) (offJ (u i) (fun i => listed.getD i false)) vals (List.range n)) := by
      have h := List.all_eq_true.1 hU i (List.mem_range.2 hin)
      unfold uD
      cases hui : u i with
      | none =>
        rw [show offJ none (fun i => listed.getD i false) = (fun i => listed.getD i false) from by funext j; simp [offJ]]
        exact List.Perm.refl _
      | some j =>
        rw [hui] at h
        simp only [Bool.and_eq_true] at h
        exact flat_take (D := fun i v => D i vals v) (by simpa [Nat.blt_eq] using h.1) (anc_listed I.inv n i o ho' hdeps j h.2)
    have hst0 : St Z w0 w ((flat (fun i v => D i vals v) (offJ (u i) (fun i => listed.getD i false)) vals (List.range n) ++ flE E (listed.setIfInBounds i true) n) ++ (E i ++ (uD D u i vals ++ L))) := by
      refine St.perm ?_ I.st
      refine (List.Perm.append_right _ hpU).trans ?_
      refine (List.Perm.append_left _ (List.Perm.append_right _ hpE)).trans ?_
      simp only [List.append_assoc]
      refine (List.perm_append_comm_assoc _ _ _).trans (List.Perm.append_left _ ?_)
      refine (List.Perm.append_left _ (List.perm_append_comm_assoc _ _ _)).trans ?_
      refine (List.perm_append_comm_assoc _ _ _).trans (List.Perm.append_left _ ?_)
      exact List.perm_append_comm_assoc _ _ _
    refine wpOp_of_WL ho ha (hop i o hin ho' vals ρ w (flat (fun i v => D i vals v) (offJ (u i) (fun i => listed.getD i false)) vals (List.range n) ++ flE E (listed.setIfInBounds i true) n) ?_ I.old hst0) ?_
    · intro j hj
      have hlj := anc_listed I.inv (n) i o ho' hdeps j hj
      exact I.val j (listed_lt I.inv hlj) hlj
    · rintro v a' w' hf ⟨hF, hst⟩
      replace hst : St Z w0 w' (D i vals v ++ ((flat (fun i v => D i vals v) (fun i => listed.getD i false) vals (List.range n) ++ flE E (listed.setIfInBounds i true) n) ++ L)) := by
        refine St.perm (List.Perm.append_left _ ?_) hst
        refine List.Perm.trans ?_ (List.Perm.append_right _ (List.Perm.append_right _ hpU.symm))
        simp only [List.append_assoc]
        refine List.Perm.trans ?_ (List.perm_append_comm_assoc _ _ _)
        refine List.Perm.append_left _ ?_
        exact List.perm_append_comm_assoc _ _ _
      have hd : o.dst = dstOf l i := by simp [dstOf, ho']
      rw [hd] at hf
      have same : ∀ j, j < n → (listed.setIfInBounds i true).getD j false = true → ∀ k, ancB l n j k = true → vals k = (fun q => if q = i then v else vals q) k := by
        intro j hj hl k hk
        have hlk : listed.getD k false = true := by
          by_cases hji : j = i
          · subst hji; exact anc_listed I.inv n j o ho' hdeps k hk
          · rw [getD_set_ne false (Ne.symm hji)] at hl
            obtain ⟨oj, hoj⟩ : ∃ oj, l[j]? = some oj := by
              have hsz : listed.size = l.length := by rw [I.inv.size]; simp
              rcases Nat.lt_or_ge j l.length with h | h
              · exact ⟨_, List.getElem?_eq_getElem h⟩
              · rw [Array.getD_eq_getD_getElem?, Array.getElem?_eq_none (by omega)] at hl; cases hl
            exact anc_listed I.inv n j oj hoj (fun e he hb => I.inv.closed j oj (by simpa using hoj) hl e he hb) k hk
        have : k ≠ i := fun h => by rw [h, hiu0] at hlk; cases hlk
        simp [this]
      refine ih (listed.setIfInBounds i true) _ _ w' a' ?_ hf (DInv.conv (dinv_stepW (F := fun i v => F i vals v) (D := fun i v => D i vals v) hB I hin hi hF hst) (fun j hj hl h => hFc j _ _ _ hj (same j hj hl) h) (fun j hj hl => hDc j _ _ _ hj (same j hj hl)))
      have hset : ∀ j, j ≠ i → (listed.setIfInBounds i true).getD j false = listed.getD j false := fun j hj => getD_set_ne false (Ne.symm hj)
      have hii : (listed.setIfInBounds i true).getD i false = true := by
        have hil : i < listed.size := by
          rcases Nat.lt_or_ge i listed.size with h | h
          · exact h
          · simp [Array.getElem?_eq_none h] at hiu
        simp [hil]
      have key : ∀ is : List Nat, is.Nodup → i ∈ is → (is.filter (fun j => !(listed.setIfInBounds i true).getD j false)).length + 1 = (is.filter (fun j => !listed.getD j false)).length := by
        intro is
        induction is with
        | nil => intro _ h; cases h
        | cons j js ihj =>
          intro hn hm
          have hnd := List.nodup_cons.1 hn
          by_cases hji : j = i
          · subst hji
            have e : js.filter (fun k => !(listed.setIfInBounds j true).getD k false) = js.filter (fun k => !listed.getD k false) := List.filter_congr (fun k hk => by
              have : k ≠ j := fun h => hnd.1 (h ▸ hk)
              rw [hset k this])
            rw [List.filter_cons, List.filter_cons, hii, getD_both hiu, e]
            simp
          · have hm' : i ∈ js := by
              rcases List.mem_cons.1 hm with h | h
              · exact absurd h.symm hji
              · exact h
            have := ihj hnd.2 hm'
            rw [List.filter_cons, List.filter_cons, hset j hji]
            split
            · rw [List.length_cons, List.length_cons, ← this]
            · exact this
      have := key (List.range n) List.nodup_range (List.mem_range.2 hin)
      omega

theorem WC.drawW0 {id : Nat} {ρ0 : Env} {w : World} (n : Nat) (F : Nat → (Nat → Value) → Value → Prop) (D : Nat → (Nat → Value) → Value → List Res) (E : Nat → List Res) (u : Nat → Option Nat) (st : St Z w0 w ((List.range n).flatMap E ++ L)) (hm : P.follows .mixedOrders = true) (hB : headB m l n = true) (hU : uB l n u = true) (hFc : ∀ i vals vals' v, i < n → (∀ j, ancB l n i j = true → vals j = vals' j) → F i vals v → F i vals' v) (hDc : ∀ i vals vals' v, i < n → (∀ j, ancB l n i j = true → vals j = vals' j) → D i vals v = D i vals' v)
    (hop : ∀ i o, i < n → l[i]? = some o → ∀ (vals : Nat → Value) (ρ : Env) (w : World) (X : List Res), (∀ j, ancB l n i j = true → F j vals (vals j) ∧ ∀ d, dstOf l j = some d → ρ d = vals j) → (∀ t, (∀ i, i < n → dstOf l i ≠ some t) → ρ t = ρ0 t) → St Z w0 w (X ++ (E i ++ (uD D u i vals ++ L))) →
      WL P m l.toArray (oneQ ρ o.dst (fun v w' => F i vals v ∧ St Z w0 w' (D i vals v ++ (X ++ (uD D u i vals ++ L))))) [o] ρ w)
    (hend : ∀ (vals : Nat → Value) (ρ : Env) (w : World), (∀ i, i < n → F i vals (vals i) ∧ ∀ d, dstOf l i = some d → ρ d = vals i) → (∀ t, (∀ i, i < n → dstOf l i ≠ some t) → ρ t = ρ0 t) → St Z w0 w (flat (fun i v => D i vals v) (fun _ => true) vals (List.range n) ++ L) →
      WL P m l.toArray Q (l.drop n) ρ w) : WC P m (.region id l.toArray true) Q ρ0 w := by
  intro a ha
  refine wp_region_any hm ?_
  have hB' := hB
  simp only [headB, Bool.and_eq_true] at hB'
  have hnl : n ≤ l.length := by simpa [Nat.ble_eq] using hB'.1.1.1.1
  have e0 : ∀ j, (Array.replicate l.toArray.size false).getD j false = false := fun j => getD_replicate_false _ _
  have h0 : DInv m l n Z w0 (flE E (Array.replicate l.toArray.size false) n ++ L) (fun i v => F i (fun _ => undef) v) (fun i v => D i (fun _ => undef) v) ρ0 (Array.replicate l.toArray.size false) (fun _ => undef) ρ0 w.drew := by
    refine ⟨⟨by simp, fun j oj _ hl => (by rw [e0] at hl; cases hl), fun t _ ht => getD_in (by simpa using ht) (e0 t)⟩, fun i _ hl => (by rw [e0] at hl; cases hl), fun _ _ => rfl, ?_⟩
    have : flat (fun i v => D i (fun _ => undef) v) (fun i => (Array.replicate l.toArray.size false).getD i false) (fun _ => undef) (List.range n) = [] := by
      unfold flat
      rw [List.flatMap_eq_nil_iff]
      intro j _
      show (if (Array.replicate l.toArray.size false).getD j false = true then D j (fun _ => undef) undef else []) = []
      rw [e0]; rfl
    rw [this]
    have e2 : flE E (Array.replicate l.toArray.size false) n = (List.range n).flatMap E := by
      unfold flE flat
      congr 1
      funext j
      show (if (!(Array.replicate l.toArray.size false).getD j false) = true then E j else []) = E j
      rw [e0]; rfl
    rw [e2]
    exact st.drew
  have := drawW_any (P := P) (Q := Q) hB hU hFc hDc hop hend n (Array.replicate l.toArray.size false) (fun _ => undef) ρ0 w.drew a (by
    rw [List.filter_eq_self.2 (fun j _ => by rw [e0]; rfl)]; simp) ha h0
  have el : n + (l.drop n).length = l.toArray.size := by simp; omega
  rw [el] at this
  exact this
def ObW (P : Program) (m : Nat) (l : List Oper) (n : Nat) (F : Nat → (Nat → Value) → Value → Prop) (D : Nat → (Nat → Value) → Value → List Res) (E : Nat → List Res) (u : Nat → Option Nat) (Z : Nat → Prop) (w0 : World) (L : List Res) (ρ0 : Env) (i : Nat) : Prop :=
  ∀ (vals : Nat → Value) (ρ : Env) (w : World) (X : List Res), (∀ j, ancB l n i j = true → F j vals (vals j) ∧ ∀ d, dstOf l j = some d → ρ d = vals j) → (∀ t, nodst l n t = true → ρ t = ρ0 t) → St Z w0 w (E i ++ (uD D u i vals ++ (L ++ X))) →
    match l[i]? with | some o => WL P m l.toArray (oneQ ρ o.dst (fun v w' => F i vals v ∧ St Z w0 w' (D i vals v ++ (uD D u i vals ++ (L ++ X))))) [o] ρ w | none => False
theorem WC.drawW {id : Nat} {ρ0 : Env} {w : World} (n : Nat) (F : Nat → (Nat → Value) → Value → Prop) (D : Nat → (Nat → Value) → Value → List Res) (E : Nat → List Res) (u : Nat → Option Nat) (st : St Z w0 w ((List.range n).flatMap E ++ L)) (hm : P.follows .mixedOrders = true) (hB : headB m l n = true) (hU : uB l n u = true)
    (hFc : ∀ i, i < n → HFc l n F i) (hDc : ∀ i, i < n → HDc l n D i) (hop : ∀ i, i < n → ObW P m l n F D E u Z w0 L ρ0 i)
    (hend : ∀ (vals : Nat → Value) (ρ : Env) (w : World), (∀ i, Nat.blt i n = true → F i vals (vals i) ∧ ∀ d, dstOf l i = some d → ρ d = vals i) → (∀ t, nodst l n t = true → ρ t = ρ0 t) → St Z w0 w (flat (fun i v => D i vals v) (fun _ => true) vals (List.range n) ++ L) →
      WL P m l.toArray Q (l.drop n) ρ w) : WC P m (.region id l.toArray true) Q ρ0 w := by
  have old : ∀ {ρ : Env}, (∀ t, (∀ i, i < n → dstOf l i ≠ some t) → ρ t = ρ0 t) → ∀ t, nodst l n t = true → ρ t = ρ0 t := fun h t ht => h t (nodst_spec ht)
  refine WC.drawW0 n F D E u st hm hB hU (fun i a b v hi => hFc i hi a b v) (fun i a b v hi => hDc i hi a b v) ?_ (fun vals ρ w h1 h2 h3 => hend vals ρ w (fun i hi => h1 i (by simpa [Nat.blt_eq] using hi)) (old h2) h3)
  intro i o hi ho vals ρ w X hd h0 hst
  have h := hop i hi vals ρ w X hd (old h0) (St.perm (List.perm_append_comm.trans (List.Perm.of_eq (by simp only [List.append_assoc]))) hst)
  rw [ho] at h
  change WL P m l.toArray (oneQ ρ o.dst (fun v w' => F i vals v ∧ St Z w0 w' (D i vals v ++ (uD D u i vals ++ (L ++ X))))) [o] ρ w at h
  intro a ha
  have e : (oneQ ρ o.dst (fun v w' => F i vals v ∧ St Z w0 w' (D i vals v ++ (uD D u i vals ++ (L ++ X))))) = (oneQ ρ o.dst (fun v w' => F i vals v ∧ St Z w0 w' (D i vals v ++ (X ++ (uD D u i vals ++ L))))) := by
    funext ex ρ' w'
    apply propext
    constructor
    · rintro ⟨h1, v, h2, h3, h4⟩
      exact ⟨h1, v, h2, h3, St.perm (List.Perm.append_left _ ((List.Perm.of_eq (List.append_assoc _ _ _).symm).trans List.perm_append_comm)) h4⟩
    · rintro ⟨h1, v, h2, h3, h4⟩
      exact ⟨h1, v, h2, h3, St.perm (List.Perm.append_left _ ((List.perm_append_comm_assoc _ _ _).trans (List.Perm.append_left _ List.perm_append_comm))) h4⟩
  rw [e] at h
  exact h a ha
theorem UL.cut {c : Code} {k : Nat} {ρ : Env} {w : World} (I : Env → Prop) (h0 : I ρ) (h : ∀ ρ', I ρ' → UL P n c Q k ρ' w) : UL P n c Q k ρ w := h ρ h0
theorem US.cut {c : Code} {l k : Nat} {ρ : Env} {w : World} (I : Env → Prop) (h0 : I ρ) (h : ∀ ρ', I ρ' → US P n l c Q k ρ' w) : US P n l c Q k ρ w := h ρ h0
/-- append, the cells that are put behind kept. -/
theorem OpT.appendK {ρ : Env} {w : World} {K : Value → World → Prop} {d : Option Tmp} {ty : TypeId} {pos : String} {after : Array Edge} {gd : Option (Nat × Bool)} {t e sz n b : Nat} {x y : Operand} {z v : Value} {cs xs : List Value} {by_ : Nat} (st : St Z w0 w (Blk b e xs :: Row e sz v n cs :: L)) (m : Nat) (hu : P.underlying t = some (.slice e)) (hs : sizeB P e = some sz) (hz : zeroB P e = some z) (hzc : z.cells.size = sz) (hb : (P.info? e).map (·.bytes) = some by_) (h0 : 0 < sz)
    (hx : evO ρ x = v) (hy : evO ρ y = .slice (some ⟨b, 0, none⟩) m m) (hm : xs.length = m * sz) (h1 : xs.all Value.oneCell' = true) (hl : (n + m) * by_ ≤ 140737488355328) (hl2 : n + m ≤ 140737488355328)
    (hK : ∀ v' w', St Z w0 w' (Blk b e xs :: Row e sz v' (n + m) (cs ++ xs) :: L) → (v' = .slice none 0 0 ↔ v = .slice none 0 0 ∧ m = 0) → K v' w') : OpT P ⟨d, .call ⟨.builtin .append, #[x, y], #[t, t]⟩, ty, pos, after, gd⟩ ρ w K := by
  obtain ⟨Z', hz', hw', hr, st1, bk⟩ := St.freezeB st
  obtain ⟨i, hi, hsz⟩ := Option.map_eq_some_iff.1 hs
  have hz' : i.zero = some z := by
    unfold zeroB at hz
    rw [hi] at hz
    exact hz
  have hb' : i.bytes = by_ := by rw [hi] at hb; simpa using hb
  have hrow := st1.row (i := 0) rfl
  have hcell : ∀ j u, xs[j]? = some u → w.cell? ((⟨b, 0, none⟩ : Addr).add j) = some u := hr.at st1
  obtain ⟨v', w', hr2, hown, hg, hnil, hat⟩ := run_append_own_at (P := P) w 0 t ty e i z sz by_ hu hi hz' hsz hb' hzc h0 v n cs hrow ⟨b, 0, none⟩ m m xs hm hcell (by simpa using h1) (by simp only [maxLen]; omega) hl (Nat.zero_le _)
  refine OpT.val (v := v') (w' := w') ?_ (hK v' w' (bk _ _ ?_) hnil)
  · simp only [execOp, resolve, invoke, builtin, Sem.run_bind, Sem.run_pure, Result.andThen_ok, List.map_toArray, List.map_cons, List.map_nil, hx, hy, hr2]
  · obtain ⟨S, ⟨hS, _⟩, hlt, H⟩ := st1.focus (i := 0) rfl
    refine H w' (Row e sz v' (n + m) (cs ++ xs)) (fun k => v'.ownBlock = some k) hg.os hg.tape hg.output hg.size (fun k hk hns => hg.block k hk (fun h => hns ((hS k).2 h.symm))) ⟨fun _ => Iff.rfl, hown⟩ ?_
    intro k hk
    have hlt' : k < w'.heap.size := by
      rcases hown.2 with ⟨rfl, _⟩ | ⟨g, cap, cur, rfl, _, hgg, _⟩
      · simp [Value.ownBlock] at hk
      · simp [Value.ownBlock] at hk
        subst hk
        exact (Array.getElem?_eq_some_iff.1 hgg).1
    refine ⟨hlt', ?_⟩
    rcases hat with h | h
    · exact .inl ((hS k).2 (h ▸ hk))
    · rw [h] at hk
      simp at hk
      right; omega
end
end Go.Eng
