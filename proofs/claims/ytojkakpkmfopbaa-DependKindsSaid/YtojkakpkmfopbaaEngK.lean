/-
  Regions that draw, where what an operation yields may hang on what came before it.
-/
import Derived.Test.YtojkakpkmfopbaaEngJ
namespace Go.Eng
open Go.RowKit
def ancB (l : List Oper) : Nat → Nat → Nat → Bool
  | 0, _, _ => false
  | f + 1, i, j => depOf l i j || (List.range i).any (fun k => depOf l i k && ancB l f k j)
section
variable {P : Program} {m n : Nat} {l : List Oper} {Q : QP} {Z : Nat → Prop} {w0 : World} {L : List Res}
theorem listed_lt {listed : Array Bool} (inv : HeadInv .any l.toArray n listed) {j : Nat} (h : listed.getD j false = true) : j < n := by
  rcases Nat.lt_or_ge j n with h1 | h1
  · exact h1
  · exfalso
    rcases Nat.lt_or_ge j listed.size with h2 | h2
    · have h3 := inv.tail j h1 (by rw [← inv.size]; exact h2)
      simp [h2] at h h3
      rw [h] at h3; cases h3
    · simp [Array.getElem?_eq_none h2] at h
theorem dep_listed {listed : Array Bool} {i : Nat} {o : Oper} (ho : l[i]? = some o) (hd : ∀ e ∈ o.after, Region.binds .any e = true → listed.getD e.on false = true) {j : Nat} (h : depOf l i j = true) : listed.getD j false = true := by
  unfold depOf at h
  rw [ho] at h
  obtain ⟨e, he, hb⟩ := List.any_eq_true.1 h
  have he := Array.mem_toList_iff.1 he
  simp only [Bool.and_eq_true, beq_iff_eq] at hb
  have := hd e he hb.1
  rw [hb.2] at this
  exact this
theorem anc_listed {listed : Array Bool} (inv : HeadInv .any l.toArray n listed) : ∀ (f i : Nat) (o : Oper), l[i]? = some o → (∀ e ∈ o.after, Region.binds .any e = true → listed.getD e.on false = true) → ∀ j, ancB l f i j = true → listed.getD j false = true := by
  intro f
  induction f with
  | zero => intro i o _ _ j h; cases h
  | succ f ih =>
    intro i o ho hd j h
    simp only [ancB, Bool.or_eq_true] at h
    rcases h with h | h
    · exact dep_listed ho hd h
    · obtain ⟨k, _, hk⟩ := List.any_eq_true.1 h
      simp only [Bool.and_eq_true] at hk
      have hlk := dep_listed ho hd hk.1
      obtain ⟨ok, hok⟩ : ∃ ok, l[k]? = some ok := by
        have hsz : listed.size = l.length := by rw [inv.size]; simp
        rcases Nat.lt_or_ge k l.length with h | h
        · exact ⟨_, List.getElem?_eq_getElem h⟩
        · rw [Array.getD_eq_getD_getElem?, Array.getElem?_eq_none (by omega)] at hlk; cases hlk
      exact ih k ok hok (fun e he hb => inv.closed k ok (by simpa using hok) hlk e he hb) j hk.2
theorem DInv.conv {F F' : Nat → Value → Prop} {D D' : Nat → Value → List Res} {ρ0 : Env} {listed : Array Bool} {vals : Nat → Value} {ρ : Env} {w : World} (I : DInv m l n Z w0 L F D ρ0 listed vals ρ w)
    (hF : ∀ j, j < n → listed.getD j false = true → F j (vals j) → F' j (vals j)) (hD : ∀ j, j < n → listed.getD j false = true → D j (vals j) = D' j (vals j)) : DInv m l n Z w0 L F' D' ρ0 listed vals ρ w := by
  refine ⟨I.inv, fun i hi hl => ⟨hF i hi hl (I.val i hi hl).1, (I.val i hi hl).2⟩, I.old, ?_⟩
  have e : flat D' (fun i => listed.getD i false) vals (List.range n) = flat D (fun i => listed.getD i false) vals (List.range n) := by
    have key : ∀ is : List Nat, (∀ j ∈ is, j < n) → flat D' (fun i => listed.getD i false) vals is = flat D (fun i => listed.getD i false) vals is := by
      intro is
      induction is with
      | nil => intro _; rfl
      | cons j js ih =>
        intro h
        simp only [flat, List.flatMap_cons] at ih ⊢
        rw [ih (fun k hk => h k (by simp [hk]))]
        by_cases hl : listed.getD j false = true
        · rw [if_pos hl, if_pos hl, hD j (h j (by simp)) hl]
        · rw [if_neg hl, if_neg hl]
    exact key _ (fun j hj => List.mem_range.1 hj)
  rw [e]
  exact I.st
theorem drawV_any {F : Nat → (Nat → Value) → Value → Prop} {D : Nat → (Nat → Value) → Value → List Res} {ρ0 : Env} {Q : QP} (hB : headB m l n = true) (hFc : ∀ i vals vals' v, i < n → (∀ j, ancB l n i j = true → vals j = vals' j) → F i vals v → F i vals' v) (hDc : ∀ i vals vals' v, i < n → (∀ j, ancB l n i j = true → vals j = vals' j) → D i vals v = D i vals' v)
    (hop : ∀ i o, i < n → l[i]? = some o → ∀ (vals : Nat → Value) (ρ : Env) (w : World) (X : List Res), (∀ j, ancB l n i j = true → F j vals (vals j) ∧ ∀ d, dstOf l j = some d → ρ d = vals j) → (∀ t, (∀ i, i < n → dstOf l i ≠ some t) → ρ t = ρ0 t) → St Z w0 w (X ++ L) →
      WL P m l.toArray (oneQ ρ o.dst (fun v w' => F i vals v ∧ St Z w0 w' (D i vals v ++ (X ++ L)))) [o] ρ w)
    (hend : ∀ (vals : Nat → Value) (ρ : Env) (w : World), (∀ i, i < n → F i vals (vals i) ∧ ∀ d, dstOf l i = some d → ρ d = vals i) → (∀ t, (∀ i, i < n → dstOf l i ≠ some t) → ρ t = ρ0 t) → St Z w0 w (flat (fun i v => D i vals v) (fun _ => true) vals (List.range n) ++ L) →
      WL P m l.toArray Q (l.drop n) ρ w) :
    ∀ (k : Nat) (listed : Array Bool) (vals : Nat → Value) (ρ : Env) (w : World) (a : Act), ((List.range n).filter (fun i => !listed.getD i false)).length = k → Fr a m ρ → DInv m l n Z w0 L (fun i v => F i vals v) (fun i v => D i vals v) ρ0 listed vals ρ w →
      wpAny P .any l.toArray (lft m Q) (k + (l.drop n).length) listed a w := by
  intro k
  induction k with
  | zero =>
    intro listed vals ρ w a hk ha I
    have hall : ∀ i, i < n → listed.getD i false = true := by
      intro i hi
      have := List.length_eq_zero_iff.1 hk
      have h2 := List.filter_eq_nil_iff.1 this i (List.mem_range.2 hi)
      simpa using h2
    have hB' := hB
    simp only [headB, Bool.and_eq_true] at hB'
    obtain ⟨⟨⟨⟨h1, _⟩, _⟩, _⟩, h5⟩ := hB'
    have hnl : n ≤ l.length := by simpa [Nat.ble_eq] using h1
    have hsz : listed.size = l.length := by rw [I.inv.size]; simp
    have hcan : listed = ((List.range l.length).map (fun j => Nat.blt j n)).toArray := by
      apply Array.ext
      · simp [hsz]
      · intro j hj hj2
        have hjl : j < l.length := by omega
        simp only [List.getElem_toArray, List.getElem_map, List.getElem_range]
        by_cases hjn : j < n
        · have := hall j hjn
          have e : Nat.blt j n = true := by simpa [Nat.blt_eq] using hjn
          rw [e]
          simpa [hj] using this
        · have := I.inv.tail j (by omega) (by simpa using hjl)
          have e : Nat.blt j n = false := by
            cases hb : Nat.blt j n
            · rfl
            · simp [Nat.blt_eq] at hb; omega
          rw [e]
          simpa [hj] using this
    rw [Nat.zero_add]
    refine wpAny_of_seq (l.drop n) n listed a w (fun j => by simp [List.getElem?_drop]) (by rw [hcan]; exact h5) ?_
    refine hend vals ρ w (fun i hi => I.val i hi (hall i hi)) I.old ?_ a ha
    have e : flat (fun i v => D i vals v) (fun i => listed.getD i false) vals (List.range n) = flat (fun i v => D i vals v) (fun _ => true) vals (List.range n) := flat_same (fun j hj => ⟨hall j (List.mem_range.1 hj), rfl⟩)
    rw [← e]
    exact I.st
  | succ k ih =>
    intro listed vals ρ w a hk ha I
    have hun : ∃ i, i < n ∧ listed.getD i false = false := by
      have : 0 < ((List.range n).filter (fun i => !listed.getD i false)).length := by omega
      obtain ⟨i, hi⟩ := List.exists_mem_of_length_pos this
      obtain ⟨h1, h2⟩ := List.mem_filter.1 hi
      exact ⟨i, List.mem_range.1 h1, by simpa using h2⟩
    obtain ⟨⟨i0, hi0⟩, hlt⟩ := dinv_ready hB I hun
    rw [show k + 1 + (l.drop n).length = (k + (l.drop n).length) + 1 by omega]
    refine ⟨fun h => (by rw [h] at hi0; cases hi0), fun i hi => ?_⟩
    have hin := hlt i hi
    obtain ⟨hiu, o, ho, hdeps⟩ := mem_ready.1 hi
    have ho' : l[i]? = some o := by simpa using ho
    refine wpOp_of_WL ho ha (hop i o hin ho' vals ρ w (flat (fun i v => D i vals v) (fun i => listed.getD i false) vals (List.range n)) ?_ I.old I.st) ?_
    · intro j hj
      have hlj := anc_listed I.inv (n) i o ho' hdeps j hj
      exact I.val j (listed_lt I.inv hlj) hlj
    · rintro v a' w' hf ⟨hF, hst⟩
      have hd : o.dst = dstOf l i := by simp [dstOf, ho']
      rw [hd] at hf
      have hiu0 : listed.getD i false = false := getD_both hiu
      have same : ∀ j, j < n → (listed.setIfInBounds i true).getD j false = true → ∀ k, ancB l n j k = true → vals k = (fun q => if q = i then v else vals q) k := by
        intro j hj hl k hk
        have hlk : listed.getD k false = true := by
          by_cases hji : j = i
          · subst hji; exact anc_listed I.inv n j o ho' hdeps k hk
          · rw [getD_set_ne false (Ne.symm hji)] at hl
            obtain ⟨oj, hoj⟩ : ∃ oj, l[j]? = some oj := by
              have hsz : listed.size = l.length := by rw [I.inv.size]; simp
              rcases Nat.lt_or_ge j l.length with h | h
              · exact ⟨_, List.getElem?_eq_getElem h⟩
              · rw [Array.getD_eq_getD_getElem?, Array.getElem?_eq_none (by omega)] at hl; cases hl
            exact anc_listed I.inv n j oj hoj (fun e he hb => I.inv.closed j oj (by simpa using hoj) hl e he hb) k hk
        have : k ≠ i := fun h => by rw [h, hiu0] at hlk; cases hlk
        simp [this]
      refine ih (listed.setIfInBounds i true) _ _ w' a' ?_ hf (DInv.conv (dinv_step (F := fun i v => F i vals v) (D := fun i v => D i vals v) hB I hin hi hF hst) (fun j hj hl h => hFc j _ _ _ hj (same j hj hl) h) (fun j hj hl => hDc j _ _ _ hj (same j hj hl)))
      have hset : ∀ j, j ≠ i → (listed.setIfInBounds i true).getD j false = listed.getD j false := fun j hj => getD_set_ne false (Ne.symm hj)
      have hii : (listed.setIfInBounds i true).getD i false = true := by
        have hil : i < listed.size := by
          rcases Nat.lt_or_ge i listed.size with h | h
          · exact h
          · simp [Array.getElem?_eq_none h] at hiu
        simp [hil]
      have key : ∀ is : List Nat, is.Nodup → i ∈ is → (is.filter (fun j => !(listed.setIfInBounds i true).getD j false)).length + 1 = (is.filter (fun j => !listed.getD j false)).length := by
        intro is
        induction is with
        | nil => intro _ h; cases h
        | cons j js ihj =>
          intro hn hm
          have hnd := List.nodup_cons.1 hn
          by_cases hji : j = i
          · subst hji
            have e : js.filter (fun k => !(listed.setIfInBounds j true).getD k false) = js.filter (fun k => !listed.getD k false) := List.filter_congr (fun k hk => by
              have : k ≠ j := fun h => hnd.1 (h ▸ hk)
              rw [hset k this])
            rw [List.filter_cons, List.filter_cons, hii, getD_both hiu, e]
            simp
          · have hm' : i ∈ js := by
              rcases List.mem_cons.1 hm with h | h
              · exact absurd h.symm hji
              · exact h
            have := ihj hnd.2 hm'
            rw [List.filter_cons, List.filter_cons, hset j hji]
            split
            · rw [List.length_cons, List.length_cons, ← this]
            · exact this
      have := key (List.range n) List.nodup_range (List.mem_range.2 hin)
      omega

theorem WC.drawV0 {id : Nat} {ρ0 : Env} {w : World} (n : Nat) (F : Nat → (Nat → Value) → Value → Prop) (D : Nat → (Nat → Value) → Value → List Res) (st : St Z w0 w L) (hm : P.follows .mixedOrders = true) (hB : headB m l n = true) (hFc : ∀ i vals vals' v, i < n → (∀ j, ancB l n i j = true → vals j = vals' j) → F i vals v → F i vals' v) (hDc : ∀ i vals vals' v, i < n → (∀ j, ancB l n i j = true → vals j = vals' j) → D i vals v = D i vals' v)
    (hop : ∀ i o, i < n → l[i]? = some o → ∀ (vals : Nat → Value) (ρ : Env) (w : World) (X : List Res), (∀ j, ancB l n i j = true → F j vals (vals j) ∧ ∀ d, dstOf l j = some d → ρ d = vals j) → (∀ t, (∀ i, i < n → dstOf l i ≠ some t) → ρ t = ρ0 t) → St Z w0 w (X ++ L) →
      WL P m l.toArray (oneQ ρ o.dst (fun v w' => F i vals v ∧ St Z w0 w' (D i vals v ++ (X ++ L)))) [o] ρ w)
    (hend : ∀ (vals : Nat → Value) (ρ : Env) (w : World), (∀ i, i < n → F i vals (vals i) ∧ ∀ d, dstOf l i = some d → ρ d = vals i) → (∀ t, (∀ i, i < n → dstOf l i ≠ some t) → ρ t = ρ0 t) → St Z w0 w (flat (fun i v => D i vals v) (fun _ => true) vals (List.range n) ++ L) →
      WL P m l.toArray Q (l.drop n) ρ w) : WC P m (.region id l.toArray true) Q ρ0 w := by
  intro a ha
  refine wp_region_any hm ?_
  have hB' := hB
  simp only [headB, Bool.and_eq_true] at hB'
  have hnl : n ≤ l.length := by simpa [Nat.ble_eq] using hB'.1.1.1.1
  have e0 : ∀ j, (Array.replicate l.toArray.size false).getD j false = false := fun j => getD_replicate_false _ _
  have h0 : DInv m l n Z w0 L (fun i v => F i (fun _ => undef) v) (fun i v => D i (fun _ => undef) v) ρ0 (Array.replicate l.toArray.size false) (fun _ => undef) ρ0 w.drew := by
    refine ⟨⟨by simp, fun j oj _ hl => (by rw [e0] at hl; cases hl), fun t _ ht => getD_in (by simpa using ht) (e0 t)⟩, fun i _ hl => (by rw [e0] at hl; cases hl), fun _ _ => rfl, ?_⟩
    have : flat (fun i v => D i (fun _ => undef) v) (fun i => (Array.replicate l.toArray.size false).getD i false) (fun _ => undef) (List.range n) = [] := by
      unfold flat
      rw [List.flatMap_eq_nil_iff]
      intro j _
      show (if (Array.replicate l.toArray.size false).getD j false = true then D j (fun _ => undef) undef else []) = []
      rw [e0]; rfl
    rw [this]
    exact st.drew
  have := drawV_any (P := P) (Q := Q) hB hFc hDc hop hend n (Array.replicate l.toArray.size false) (fun _ => undef) ρ0 w.drew a (by
    rw [List.filter_eq_self.2 (fun j _ => by rw [e0]; rfl)]; simp) ha h0
  have el : n + (l.drop n).length = l.toArray.size := by simp; omega
  rw [el] at this
  exact this
/-- What is owed of operation i. -/
def ObV (P : Program) (m : Nat) (l : List Oper) (n : Nat) (F : Nat → (Nat → Value) → Value → Prop) (D : Nat → (Nat → Value) → Value → List Res) (Z : Nat → Prop) (w0 : World) (L : List Res) (ρ0 : Env) (i : Nat) : Prop :=
  ∀ (vals : Nat → Value) (ρ : Env) (w : World) (X : List Res), (∀ j, ancB l n i j = true → F j vals (vals j) ∧ ∀ d, dstOf l j = some d → ρ d = vals j) → (∀ t, nodst l n t = true → ρ t = ρ0 t) → St Z w0 w (L ++ X) →
    match l[i]? with | some o => WL P m l.toArray (oneQ ρ o.dst (fun v w' => F i vals v ∧ St Z w0 w' (D i vals v ++ (L ++ X)))) [o] ρ w | none => False
/-- THE RULE. -/
theorem WC.drawV {id : Nat} {ρ0 : Env} {w : World} (n : Nat) (F : Nat → (Nat → Value) → Value → Prop) (D : Nat → (Nat → Value) → Value → List Res) (st : St Z w0 w L) (hm : P.follows .mixedOrders = true) (hB : headB m l n = true) (hFc : ∀ i vals vals' v, i < n → (∀ j, ancB l n i j = true → vals j = vals' j) → F i vals v → F i vals' v) (hDc : ∀ i vals vals' v, i < n → (∀ j, ancB l n i j = true → vals j = vals' j) → D i vals v = D i vals' v)
    (hop : ∀ i, i < n → ObV P m l n F D Z w0 L ρ0 i)
    (hend : ∀ (vals : Nat → Value) (ρ : Env) (w : World), (∀ i, Nat.blt i n = true → F i vals (vals i) ∧ ∀ d, dstOf l i = some d → ρ d = vals i) → (∀ t, nodst l n t = true → ρ t = ρ0 t) → St Z w0 w (flat (fun i v => D i vals v) (fun _ => true) vals (List.range n) ++ L) →
      WL P m l.toArray Q (l.drop n) ρ w) : WC P m (.region id l.toArray true) Q ρ0 w := by
  have old : ∀ {ρ : Env}, (∀ t, (∀ i, i < n → dstOf l i ≠ some t) → ρ t = ρ0 t) → ∀ t, nodst l n t = true → ρ t = ρ0 t := fun h t ht => h t (nodst_spec ht)
  refine WC.drawV0 n F D st hm hB hFc hDc ?_ (fun vals ρ w h1 h2 h3 => hend vals ρ w (fun i hi => h1 i (by simpa [Nat.blt_eq] using hi)) (old h2) h3)
  intro i o hi ho vals ρ w X hd h0 hst
  have h := hop i hi vals ρ w X hd (old h0) (St.perm List.perm_append_comm hst)
  rw [ho] at h
  change WL P m l.toArray (oneQ ρ o.dst (fun v w' => F i vals v ∧ St Z w0 w' (D i vals v ++ (L ++ X)))) [o] ρ w at h
  intro a ha
  have e : (oneQ ρ o.dst (fun v w' => F i vals v ∧ St Z w0 w' (D i vals v ++ (L ++ X)))) = (oneQ ρ o.dst (fun v w' => F i vals v ∧ St Z w0 w' (D i vals v ++ (X ++ L)))) := by
    funext ex ρ' w'
    apply propext
    constructor
    · rintro ⟨h1, v, h2, h3, h4⟩
      exact ⟨h1, v, h2, h3, St.perm (List.Perm.append_left _ List.perm_append_comm) h4⟩
    · rintro ⟨h1, v, h2, h3, h4⟩
      exact ⟨h1, v, h2, h3, St.perm (List.Perm.append_left _ List.perm_append_comm) h4⟩
  rw [e] at h
  exact h a ha
end
end Go.Eng
