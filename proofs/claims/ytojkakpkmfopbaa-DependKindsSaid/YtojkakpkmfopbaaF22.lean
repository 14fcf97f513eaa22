/- Strings of a slice, sorted into a new one. -/
import Derived.Test.YtojkakpkmfopbaaF21
set_option linter.unusedVariables false
set_option maxRecDepth 20000
namespace Go.Ped
open Go Go.Eng Go.RowKit Go.Proofs

theorem cal69 : CallOk Try.prog 69 := ⟨⟨Try.f69, Try.func69, rfl, by decide⟩⟩
theorem cal61 : CallOk Try.prog 61 := ⟨⟨Try.f61, Try.func61, rfl, by decide⟩⟩
theorem cal62 : CallOk Try.prog 62 := ⟨⟨Try.f62, Try.func62, rfl, by decide⟩⟩
open Go.Maps Go.Sort Go.Shelf
theorem take_succ' {α : Type} (zs : List α) (k : Nat) (hk : k < zs.length) : zs.take (k + 1) = zs.take k ++ [zs[k]] := by
  rw [List.take_add_one, List.getElem?_eq_getElem hk]; simp
/-- The walk over a slice of strings: whatever the rounds do, so they keep what lay below n0. -/
theorem Vals1 (n : Nat) (hn : 1 ≤ n) (l B n0 g off len cap : Nat) (zs : List (List UInt8)) (hlen : len = zs.length) (hreach : len * 16 ≤ 140737488351232) (hg : g < n0) (hBn : B < n0) (J : List (List UInt8) → World → Prop) (W : World)
    (hY : ∀ pre x W, J pre W → pre.length < len → YieldAt Fence.wide (n - 1) Try.prog l #[encStr x] W fun e W' => e = .returned (.bool true) ∧ J (pre ++ [x]) W') (hJB : ∀ pre W', J pre W' → Below n0 W W')
    (hBs : W.cell? ⟨B, 0, none⟩ = some (.slice (some ⟨g, off, none⟩) len cap)) (hc : ∀ j, j < len → W.cell? ⟨g, off + j, none⟩ = some (encStr (zs[j]?.getD []))) (h0 : J [] W) :
    CallsIn Fence.wide n Try.prog 63 #[.func (.yield l) #[] #[], .pointer (some ⟨B, 0, none⟩)] W fun e W' => (∃ v, e = .returned v) ∧ J zs W' := by
  subst hlen
  refine callsIn_of_wp Try.func63 rfl trivial ?_ rfl
  simp only [Try.ntmps63, List.size_toArray, List.length_cons, List.length_nil, Nat.reduceAdd, Nat.reduceSub, Array.replicate_succ, Array.replicate_zero, List.push_toArray, List.append_toArray, List.nil_append, List.cons_append]
  gi_wp2
  gi_loopw [7] (fun i wr => ∃ k : Nat, k ≤ zs.length ∧ i = .int .i64 k ∧ J (zs.take k) wr)
    (fun i _ => zs.length - (RowKit.intOf i).toNat)
  case atStart => exact ⟨0, Nat.zero_le _, rfl, h0⟩
  case round =>
    obtain ⟨k, hk, rfl, hJs⟩ := hrel
    have hnx := hJB _ _ hJs
    have hcx : ∀ h : k < zs.length, wr.cell? ⟨g, off + k, none⟩ = some (encStr zs[k]) := fun h => ((hnx.cell (p := ⟨g, off + k, none⟩) hg).trans (hc k h)).trans (by rw [List.getElem?_eq_getElem h]; rfl)
    by_cases hlt : k < zs.length
    · obtain ⟨fn, tmps, assign, body, hy, hR⟩ := hY _ zs[k] wr hJs (by rw [List.length_take]; omega)
      have hcx' := hcx hlt
      gi_wp2
      refine hR.mono ?_
      rintro e W3 ⟨rfl, hJ3⟩
      gi_wp2
      go_roundw
      case rel => exact ⟨k + 1, by omega, by simp, by rw [take_succ' zs k hlt]; exact hJ3⟩
      case measure => simp [RowKit.intOf]; omega
    · obtain rfl : k = zs.length := by omega
      gi_wp2
      go_end0
      exact ⟨⟨_, rfl⟩, by rw [List.take_length] at hJs; exact hJs⟩
/-- slices.AppendSeq(nil, slices.Values(s)): a slice of its own with s's strings. -/
theorem AppVals (n : Nat) (hn : 2 ≤ n) (B g off cap : Nat) (zs : List (List UInt8)) (hz : zs.length < 1048576) (w : World) (hBl : B < w.heap.size) (hg : g < w.heap.size)
    (hBs : w.cell? ⟨B, 0, none⟩ = some (.slice (some ⟨g, off, none⟩) zs.length cap)) (hc : ∀ j, j < zs.length → w.cell? ⟨g, off + j, none⟩ = some (encStr (zs[j]?.getD []))) :
    CallsIn Fence.wide n Try.prog 69 #[.slice none 0 0, .func (.func 63) #[] #[.pointer (some ⟨B, 0, none⟩)]] w fun e w' => ∃ v, e = .returned v ∧ w'.ownsRow w.heap.size 9 1 v zs.length (zs.map encStr) ∧ Below w.heap.size w w' := by
  have X : SlLaysZ.n11 Try.prog Try.sorted51_ren := { Try.sorted51 with }
  have hro : Fence.wide.round = none := rfl
  have hne : 68 ≠ 9 := by decide
  refine callsIn_of_wp_marks Try.func69 rfl trivial ?_ hro
  simp only [Try.ntmps69, List.size_toArray, List.length_cons, List.length_nil, Nat.reduceAdd, Nat.reduceSub, Array.replicate_succ, Array.replicate_zero, List.push_toArray, List.append_toArray, List.nil_append, List.cons_append]
  gi_wp2
  refine wpIn_rangeFunc ?_
  intro fn hfn
  rw [hro]
  obtain ⟨W0, hW0⟩ : ∃ W0, w.alloc (.cells #[.slice none 0 0] 68) = W0 := ⟨_, rfl⟩
  have hs0 : W0.heap.size = w.heap.size + 1 := by rw [← hW0]; simp
  have hv0 : W0.heap[w.heap.size]? = some (.cells #[.slice none 0 0] 68 (0, 0)) := by rw [← hW0]; exact World.alloc_heap_new w _
  have hb0 : Below w.heap.size w W0 := by rw [← hW0]; exact (Below.refl _ w).alloc (Nat.le_refl _) _
  rw [hW0]
  obtain ⟨rec_, hrec⟩ : ∃ r, AnyZ.apRec Try.sorted51_ren fn (.func (.func 63) #[] #[.pointer (some ⟨B, 0, none⟩)]) w.heap.size W0.heap.size .ready none = r := ⟨_, rfl⟩
  obtain ⟨W1, hW1⟩ : ∃ W1, (W0.alloc (.deferred (some []))).alloc (.loop rec_) = W1 := ⟨_, rfl⟩
  have hold : ∀ k, k < W0.heap.size → W1.heap[k]? = W0.heap[k]? := fun k hk => by
    rw [← hW1]; exact (Below.heap_alloc _ _ k (by simp; omega)).trans (Below.heap_alloc _ _ k hk)
  have hb1 : Below w.heap.size w W1 := by rw [← hW1]; exact (hb0.alloc hb0.size _).alloc (by have := hb0.size; simp; omega) _
  have hs1 : W1.heap.size = W0.heap.size + 2 := by rw [← hW1]; simp
  have hM : AnyZ.ApAt Try.sorted51_ren w fn (.func (.func 63) #[] #[.pointer (some ⟨B, 0, none⟩)]) w.heap.size (W0.heap.size + 1) W0.heap.size [] W1 :=
    ⟨⟨_, (hold w.heap.size (by omega)).trans hv0, ⟨rfl, .inl ⟨rfl, rfl⟩⟩, by simp⟩,
     by rw [hrec, ← hW1]; have := World.alloc_heap_new (W0.alloc (.deferred (some []))) (.loop rec_); rwa [World.size_alloc] at this,
     by rw [← hW1]; exact (Below.heap_alloc _ _ _ (by simp)).trans (World.alloc_heap_new W0 _), hb1⟩
  refine ⟨W0.heap.size + 1, [{ target := .collected W0.heap.size, args := #[] }], W1, { target := .fn (.func 63) #[.pointer (some ⟨B, 0, none⟩)], args := #[.func (.yield (W0.heap.size + 1)) #[] #[]] }, W1, 63,
    #[.func (.yield (W0.heap.size + 1)) #[] #[]] ++ #[.pointer (some ⟨B, 0, none⟩)], W1, ?_, ?_, ?_, ?_, fun _ => by omega, ?_⟩
  · rw [← hW1, ← hrec]; exact run_enterLoop_outer _ _ _ _ _
  · simp [resolve, go_sem]
  · intro f' hf'; exact trivial
  · simp [invoke, go_sem, enters_of Try.func63 (by kernel_rfl) rfl]
  · have hbel : ∀ pre W', AnyZ.ApAt Try.sorted51_ren w fn (.func (.func 63) #[] #[.pointer (some ⟨B, 0, none⟩)]) w.heap.size (W0.heap.size + 1) W0.heap.size pre W' → Below w.heap.size W1 W' := fun pre W' h => by
      have h2 := h.below
      refine ⟨h2.os.trans hb1.os.symm, h2.tape.trans hb1.tape.symm, h2.output.trans hb1.output.symm, ?_, fun k hk => (h2.block k hk).trans (hb1.block k hk).symm⟩
      first | exact h2.size | (have := (Array.getElem?_eq_some_iff.1 h.L).1; omega)
    refine (Vals1 (n - 1) (by omega) (W0.heap.size + 1) B w.heap.size g off zs.length cap zs rfl (by omega) hg hBl (AnyZ.ApAt Try.sorted51_ren w fn (.func (.func 63) #[] #[.pointer (some ⟨B, 0, none⟩)]) w.heap.size (W0.heap.size + 1) W0.heap.size) W1
      (fun pre x W hJ hl => (AnyZ.apYield X Fence.wide (n - 1 - 1) w fn hfn _ w.heap.size (W0.heap.size + 1) W0.heap.size (by omega) (by omega) (by omega) (Nat.le_refl _) (by omega) zs.length (by simp only [maxLen]; omega) (by omega) pre x W hJ hl).mono (fun e W' ⟨h1, h2, _⟩ => ⟨h1, h2⟩)) hbel
      ((hb1.cell (p := ⟨B, 0, none⟩) hBl).trans hBs) (fun j hj => (hb1.cell (p := ⟨g, off + j, none⟩) hg).trans (hc j hj)) hM).mono ?_
    rintro e W2 ⟨⟨v0, rfl⟩, h2⟩
    obtain ⟨v, hv, hrow, hnil⟩ := h2.box
    have hend := run_endLoop (P := Try.prog) h2.L (by simp [AnyZ.apRec])
    obtain ⟨W3, hW3⟩ : ∃ W3, W2.putObj (W0.heap.size + 1) (.loop { AnyZ.apRec Try.sorted51_ren fn (.func (.func 63) #[] #[.pointer (some ⟨B, 0, none⟩)]) w.heap.size W0.heap.size .ready none with state := .exhausted }) = W3 := ⟨_, rfl⟩
    rw [hW3] at hend
    have hg3 : W2.grownBy W3 (some (W0.heap.size + 1)) := by rw [← hW3]; exact grownBy_putObj_a _ _ _
    have hv3 : W3.heap[w.heap.size]? = some (.cells #[v] 68 (0, 0)) := by rw [← hW3]; exact (World.putObj_heap_other (by omega)).trans hv
    have hK3 : W3.heap[W0.heap.size]? = some (.deferred (some [])) := by rw [← hW3]; exact (World.putObj_heap_other (by omega)).trans h2.K
    have hrow3 := hrow.kept hg3 (ownsRow_ne_a hrow h2.L (fun cur e => by cases e))
    have hb3 : Below w.heap.size w W3 := h2.below.grown hg3 h2.below.size (fun k e => by cases e; omega)
    obtain ⟨hc3, hf3⟩ := cell_of_box_a hv3
    clear hW3
    refine ⟨none, W3, hend, ?_⟩
    gi_wp2
    rw [← hs0]
    refine ⟨by simp, .inl ⟨_, _, rfl, run_takeDeferred hK3, ?_⟩⟩
    exact ⟨_, results_tmp rfl _ _ _, v, rfl, hrow3.kept (grownBy_putObj_a _ _ _) (ownsRow_ne_a hrow3 hK3 (fun cur e => by cases e)), hb3.grown (grownBy_putObj_a _ _ _) hb3.size (fun k e => by cases e; omega)⟩
section
variable {Z : Nat → Prop} {w0 w : World} {L : List Res}
theorem Sort_spec {v : Value} {ss : List (List UInt8)} (st : St Z w0 w (Row 9 1 v ss.length (ss.map encStr) :: L)) (hl : ss.length < 1048576) : Calls Try.prog 62 #[v] w (Ret fun r w' => r = .tuple #[] ∧ St Z w0 w' (Row 9 1 v ss.length ((ss.mergeSort leB).map encStr) :: L)) := by
  obtain ⟨S, ⟨hS, hrow⟩, hlt, H⟩ := st.focus (i := 0) rfl
  have hso := Try.sorts51 9
  rcases hrow.2 with ⟨rfl, hz⟩ | ⟨gb, cap, cur, rfl, hbase, hgb, r1, r2, r3, r4⟩
  · have hss : ss = [] := List.eq_nil_of_length_eq_zero hz
    subst hss
    refine (callsIn_wide.1 (hso.2 none 0 w)).mono ?_
    rintro e w' ⟨rfl, rfl⟩
    exact ⟨_, rfl, rfl, by simpa using st⟩
  · have hH : Holds encStr w gb 0 ss.toArray := holds_of_block hgb (by simpa using r4)
    have hgl : gb < w.heap.size := (Array.getElem?_eq_some_iff.1 hgb).1
    refine (callsIn_wide.1 (hso.1 gb 0 cap ss w hH hgl (by omega))).mono ?_
    rintro e w' ⟨rfl, nn, os, rfl⟩
    refine ⟨_, rfl, rfl, ?_⟩
    have hg := grownBy_sorted (w := w) (g := gb) (n := nn) (os := os) (ss.mergeSort fun x y => decide (x ≤ y)).toArray
    have hr := ownsRow_sorted (w := w) (n := nn) (os := os) (ss := ss) (ts := ss.mergeSort fun x y => decide (x ≤ y)) (by simp) hbase hgb r1 r2 r3
    refine H _ (Row 9 1 (.slice (some ⟨gb, 0, none⟩) ss.length cap) ss.length ((ss.mergeSort leB).map encStr)) S hg.os hg.tape hg.output hg.size (fun k hk hn => hg.block k hk (fun e => hn ((hS k).2 e.symm))) ⟨hS, hr⟩ (fun k hk => ⟨Nat.lt_of_lt_of_le (hlt k hk).1 hg.size, .inl hk⟩)
theorem sortedVals_spec {B g cap : Nat} {zs : List (List UInt8)} {ex : List Value} (st : St Z w0 w (Blk B 68 [.slice (some ⟨g, 0, none⟩) zs.length cap] :: Blk g 9 (zs.map encStr ++ ex) :: L)) (hl : zs.length < 1048576) :
    Calls Try.prog 51 #[.func (.func 63) #[] #[.pointer (some ⟨B, 0, none⟩)]] w (Ret fun r w' => r.oneCell' = true ∧ r.cells = #[r] ∧ St Z w0 w' (Row 9 1 r zs.length ((zs.mergeSort leB).map encStr) :: Blk B 68 [.slice (some ⟨g, 0, none⟩) zs.length cap] :: Blk g 9 (zs.map encStr ++ ex) :: L)) := by
  have hB := st.blk (i := 0) rfl
  have hG := st.blk (i := 1) rfl
  have cA := callsIn_wide.1 (AppVals 6 (by omega) B g 0 cap zs hl w (Array.getElem?_eq_some_iff.1 hB).1 (Array.getElem?_eq_some_iff.1 hG).1 (by simp [World.cell?, hB]) (fun j hj => by
    rw [Nat.zero_add]
    simp [World.cell?, hG, hj, List.getElem?_append_left]))
  refine calls_of_WC (m := 9) (rs := [.tmp 2]) Try.func51 rfl rfl rfl rfl ?_
  refine WC.seq ?_
  refine WC.region ?_
  refine WL.step rfl (OpT.assign (.slice none 0 0) rfl ?_)
  refine WL.nil ?_
  refine thenQ_n ?_
  refine WC.seq ?_
  refine WC.region ?_
  refine WL.step rfl (OpT.move (.func (.func 63) #[] #[.pointer (some ⟨B, 0, none⟩)]) rfl ?_)
  refine WL.step rfl (OpT.callC cal61 [] [] [.func (.func 63) #[] #[.pointer (some ⟨B, 0, none⟩)]] rfl (ca1 rfl) ?_)
  refine calls_of_WC (m := 5) (rs := [.tmp 2]) Try.func61 rfl rfl rfl rfl ?_
  refine WC.seq ?_
  refine WC.region ?_
  refine WL.step rfl (OpT.assign (.slice none 0 0) rfl ?_)
  refine WL.nil ?_
  refine thenQ_n ?_
  refine WC.seq ?_
  refine WC.region ?_
  refine WL.step rfl (OpT.move (.func (.func 63) #[] #[.pointer (some ⟨B, 0, none⟩)]) rfl ?_)
  refine WL.step rfl (OpT.callC cal69 [] [] [.slice none 0 0, .func (.func 63) #[] #[.pointer (some ⟨B, 0, none⟩)]] rfl (ca2 rfl rfl) (cA.mono ?_))
  rintro e w1 ⟨v, rfl, hrow, hbel⟩
  have st1 := st.cons hbel (Row 9 1 v zs.length (zs.map encStr)) (fun k => v.ownBlock = some k) ⟨fun _ => Iff.rfl, ownsRow_base_a hrow (Nat.zero_le _)⟩ (fun k hk => hrow.lt k hk)
  refine ⟨_, rfl, ?_⟩
  refine WL.step rfl (OpT.assign v rfl ?_)
  refine WL.nil ?_
  refine thenQ_n ?_
  refine WC.ret <| retQ.one v rfl ?_
  refine ⟨_, rfl, ?_⟩
  refine WL.step rfl (OpT.assign v rfl ?_)
  refine WL.nil ?_
  refine thenQ_n ?_
  refine WC.seq ?_
  refine WC.region ?_
  refine WL.step rfl (OpT.move v rfl ?_)
  refine WL.step rfl (OpT.callS cal62 [] [] [v] rfl (ca1 rfl) (Sort_spec st1 hl) ?_)
  rintro r w2 ⟨rfl, st2⟩
  refine WL.nil ?_
  refine thenQ_n ?_
  refine WC.seq ?_
  refine WC.region ?_
  refine WL.step rfl (OpT.move v rfl ?_)
  refine WL.step rfl (OpT.assign v rfl ?_)
  refine WL.nil ?_
  refine thenQ_n ?_
  refine WC.ret <| retQ.one v rfl ?_
  exact ⟨_, rfl, st2.rowOne (i := 0) rfl, st2.rowCel (i := 0) rfl, st2⟩
end
end Go.Ped
