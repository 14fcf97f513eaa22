/- The names of a graph, in order. -/
import Derived.Test.YtojkakpkmfopbaaEngN
import Derived.Test.YtojkakpkmfopbaaIter
import Derived.Test.YtojkakpkmfopbaaF20
set_option linter.unusedVariables false
set_option maxRecDepth 20000
namespace Go.Ped
open Go Go.Eng Go.RowKit Go.Proofs

theorem cal53 : CallOk Try.prog 53 := ⟨⟨Try.f53, Try.func53, rfl, by decide⟩⟩
theorem cal51 : CallOk Try.prog 51 := ⟨⟨Try.f51, Try.func51, rfl, by decide⟩⟩
open Go.Maps Go.Sort
def keyL (m : List (ByteArray × Value)) : List (List UInt8) := m.map fun p => p.1.data.toList
theorem names_spec {Z : Nat → Prop} {w0 w : World} {L : List Res} {mb : Nat} {m : List (ByteArray × Value)} (st : St Z w0 w (Mp Value.string (fun v : Value => v) mb m :: L)) (hk : ∀ p ∈ m, p.1.size ≤ maxLen) (hd : (m.map fun p => p.1).Nodup) (hl : m.length < 1048576) :
    Calls Try.prog 37 #[.map (some mb)] w (Ret fun r w' => r.oneCell' = true ∧ r.cells = #[r] ∧ St Z w0 w' (Row 9 1 r m.length (((keyL m).mergeSort leB).map encStr) :: Mp Value.string (fun v : Value => v) mb m :: L)) := by
  obtain ⟨S, ⟨hS, es, clock, hb, hm, hp, hc⟩, hlt, _⟩ := st.focus (i := 0) rfl
  have hks : es.toList.map (fun e => e.key) = m.map (fun p => Value.string p.1) := by
    have := congrArg (List.map Prod.fst) hm
    simpa [List.map_map, Function.comp_def] using this
  have hsz : es.size = m.length := by have := congrArg List.length hm; simpa using this
  have hkey : ∀ x ∈ es.toList, ∃ p ∈ m, x.key = .string p.1 := by
    intro x hx
    have : x.key ∈ m.map (fun p => Value.string p.1) := by rw [← hks]; exact List.mem_map_of_mem hx
    obtain ⟨p, hp, e⟩ := List.mem_map.1 this
    exact ⟨p, hp, e.symm⟩
  have hu : Try.prog.underlying 9 = some .string := Try.underlying9
  have hrd : ∀ x ∈ es.toList, ∀ s, x.key = .string s → WideElems.rd (H := Unit) Try.prog 9 (fun _ => some (.nil, [])) x = some (.string s.data.toList, .nil) := by
    intro x hx s hs
    obtain ⟨p, hpm, e⟩ := hkey x hx
    have es' : p.1 = s := by rw [hs] at e; exact (Value.string.inj e).symm
    have := WideMaps.keyOf_string_mk hu (hk p hpm)
    rw [es'] at this
    simp [WideElems.rd, hs, this]
  have F : WideElems.Fit (H := Unit) Try.prog 9 (fun _ => some (.nil, [])) es clock := by
    refine ⟨by rw [hsz]; simp only [maxLen]; omega, ⟨hc, hp.imp (fun h => Nat.ne_of_lt h), ?_⟩, ?_⟩
    · show (es.toList.map (fun e => e.key)).Nodup
      rw [hks, show (m.map fun p => Value.string p.1) = (m.map fun p => p.1).map Value.string from by rw [List.map_map]; rfl]
      exact List.pairwise_map.2 (hd.imp (fun h e => h (by injection e)))
    · intro x hx
      obtain ⟨p, _, e⟩ := hkey x hx
      exact ⟨_, hrd x hx _ e⟩
  have hD : (strKeys (H := Unit) (.map ((es.toList.map (WideElems.rg Try.prog 9 (fun _ => some (.nil, [])))).foldr DataW.insert []))).Perm (keyL m) := by
    show List.Perm (List.map (fun p : Lit × DataW Unit => strOf p.1) _) _
    refine ((WideShapes.sorted_perm _).map _).trans (List.Perm.of_eq ?_)
    rw [List.map_map]
    have e : es.toList.map ((fun p : Lit × DataW Unit => strOf p.1) ∘ WideElems.rg Try.prog 9 (fun _ => some (.nil, []))) = es.toList.map (fun e => match e.key with | .string s => s.data.toList | _ => []) := by
      refine List.map_congr_left (fun x hx => ?_)
      obtain ⟨p, _, e⟩ := hkey x hx
      simp only [Function.comp_def, WideElems.rg, hrd x hx _ e, Option.getD_some, e, strOf]
    rw [e]
    have := congrArg (List.map (fun v => match v with | Value.string s => s.data.toList | _ => [])) hks
    simpa [List.map_map, Function.comp_def, keyL] using this
  have hms : Maps.size (H := Unit) (.map ((es.toList.map (WideElems.rg Try.prog 9 (fun _ => some (.nil, [])))).foldr DataW.insert [])) = m.length := by
    rw [Maps.size_eq, (WideShapes.sorted_perm _).length_eq, List.length_map, Array.length_toList, hsz]
  have own : w.ownsMap (H := Unit) Try.prog 9 (fun _ => some (.nil, [])) mb es.size (.map ((es.toList.map (WideElems.rg Try.prog 9 (fun _ => some (.nil, [])))).foldr DataW.insert [])) := ⟨es, clock, hb, F, Nat.le_refl _, rfl⟩
  have cK := callsIn_wide.1 (Try.maps_Keys_53 (some mb) w)
  have cS := callsIn_wide.1 (Try.slices_Sorted_keys_51_53 mb es.size _ _ w own (by rw [hms]; simp only [maxLen]; omega) (by rw [hms]; omega))
  refine calls_of_WC (m := 6) (rs := [.tmp 2]) Try.func37 rfl rfl rfl rfl ?_
  refine WC.seq ?_
  refine WC.region ?_
  refine WL.step rfl (OpT.assign (.slice none 0 0) rfl ?_)
  refine WL.nil ?_
  refine thenQ_n ?_
  refine WC.seq ?_
  refine WC.region ?_
  refine WL.step rfl (OpT.move (.map (some mb)) rfl ?_)
  refine WL.step rfl (OpT.callC cal53 [] [] [.map (some mb)] rfl (ca1 rfl) (cK.mono ?_))
  rintro e w1 ⟨rfl, rfl⟩
  refine ⟨_, rfl, ?_⟩
  refine WL.step rfl (OpT.callC cal51 [] [] [.func (.func 64) #[] #[.pointer (some ⟨w.heap.size, 0, none⟩)]] rfl (ca1 rfl) (cS.mono ?_))
  rintro e w2 ⟨v, ss, rfl, hperm, hrow, hnil, hbel⟩
  refine ⟨_, rfl, ?_⟩
  refine WL.step rfl (OpT.assign v rfl ?_)
  refine WL.nil ?_
  refine thenQ_n ?_
  refine WC.ret <| retQ.one v rfl ?_
  have hss : ss.mergeSort (fun x y => decide (x ≤ y)) = (keyL m).mergeSort leB := mergeSort_of_perm (hperm.trans hD)
  have hlen : ss.length = m.length := by rw [(hperm.trans hD).length_eq, keyL, List.length_map]
  rw [hss, hlen] at hrow
  have hb1 : Below w.heap.size w w2 := ((Below.refl _ w).alloc (Nat.le_refl _) _).trans (hbel.mono (by simp))
  have st2 := st.cons hb1 (Row 9 1 v m.length (((keyL m).mergeSort leB).map encStr)) (fun k => v.ownBlock = some k) ⟨fun _ => Iff.rfl, ownsRow_base_a hrow (by simp)⟩ (fun k hk => by
    have := hrow.lt k hk
    simp at this
    omega)
  exact ⟨_, rfl, st2.rowOne (i := 0) rfl, st2.rowCel (i := 0) rfl, st2⟩
end Go.Ped
