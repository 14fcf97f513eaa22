/- DependWays returns true for every list of rules and every text, and what was handed in reads behind the call as it read before.
  Conditions: none beyond the row's own. -/
import Derived.Test.YtojkakpkmfopbaaGreatWa3
import Derived.Test.YtojkakpkmfopbaaGreatRows
import Derived.Test.YtojkakpkmfopbaaGreatWa6
set_option linter.unusedVariables false
set_option maxRecDepth 20000
namespace Go.Proofs.YtojkakpkmfopbaaGreat
open Go Go.Eng Go.RowKit Go.Proofs
open Go.ChangeShapes Go.WideShapes Go.ChangeAt Go.Ped
theorem Tryz.own : ownKnob Tryz.prog.godebug = none := by kernel_rfl
theorem Tryz.laidOut : laidOutB Tryz.prog = true := by kernel_rfl
theorem DependWays_lifted (os : Os) (started : os.Started) (H : Type) (enc : TypeId × Value → H) :
    ReturnsInHanded {} Tryz.checked os 4 .any (Rows.dependWaysSpec.pre6 enc Tryz.prog Tryz.f4 Rows.dependWaysRow.domain false) (Rows.dependWaysSpec.post enc Tryz.prog Tryz.f4 false true false false) := by
  refine returnsInHanded_of_change_sized (C := Tryz.checked) Tryz.own started (by kernel_rfl) Tryz.func4
    (ChangeSpec.witness6 (enc := enc) (C := Tryz.checked) false ⟨#[], #[.slice none 0 0, .string ⟨#[]⟩], []⟩ 8 (by kernel_rfl) (by kernel_rfl) (by kernel_rfl) (by kernel_rfl)) ?_
  intro W base args ds gs before hval0 hW _ hsz0 _
  have hsz : (DataW.weightsEach Tryz.prog (Tryz.f4.params.toList ++ Rows.dependWaysSpec.plain.varTypes Tryz.prog) (ds ++ gs)).all (· ≤ reachBytes) = true := hsz0
  have hval : ∀ (j : Nat) t v, Tryz.f4.params[j]? = some t → args[j]? = some v → Value.okWide Tryz.prog W .any base t v := hval0
  clear hsz0 hval0
  have hW' := hW
  obtain ⟨p, q, hA0, hV, rfl, _, _⟩ := hW
  have hA : DataW.TrodAll enc Tryz.prog W 0 (fun _ => true) true Tryz.f4.params.toList args.toList ds p := hA0
  rw [Tryz.params4] at hA hval hsz
  obtain ⟨v0, v1, d0, d1, p0, p1, rfl, rfl, rfl, h0, h1⟩ := trodAll_two hA
  obtain ⟨rfl, rfl⟩ := trodVars_none hV
  obtain ⟨a0, len, cap, rfl⟩ := okWide_slice Tryz.underlying22 (hval 0 22 v0 rfl rfl)
  have h0k := h0
  have h1k := h1
  obtain ⟨fuel, hf⟩ := h0
  obtain ⟨fuel1, hf1⟩ := h1
  have hw : wOk Tryz.prog 22 d0 := fun x hx => by
    have := List.all_eq_true.1 hsz x (by
      show x ∈ DataW.weights Tryz.prog 22 d0 ++ _
      exact List.mem_append_left _ hx)
    simpa using this
  obtain ⟨v, rs, hcs, hsl, hsizes⟩ := op_Ruls hf hw
  cases (show [Value.slice a0 len cap] = [v] from hcs)
  obtain ⟨s, hs1, hs2⟩ := rd_str Tryz.underlying9 hf1
  obtain ⟨s9, rfl⟩ := okWide_string Tryz.underlying9 (hval 1 9 v1 rfl rfl)
  cases (show [Value.string s9] = [.string s] from hs1)
  simp only [List.append_nil] at hW'
  have hlt : ∀ x ∈ p0 ++ p1, x.block < W.heap.size := fun x hx => by simpa using hW'.lt x hx
  refine (Ways_spec (St.start W) (.slice a0 len cap) rs hsl hsizes s hs2).mono fun e W' ⟨r, he, hr, hst⟩ => ?_
  subst he hr
  have hnx := hst.below
  refine ⟨_, rfl, _, _, _, [], p0 ++ p1, [], hW', ?_, ?_, rfl, hnx.frame _, fun h => by cases h⟩
  · exact trodAll_mk1 (shut_bool Tryz.underlying4 true)
  · exact trodAll_mk2 (Below.trod Tryz.laidOut (by kernel_rfl) (of_decide_eq_true (by kernel_rfl)) h0k hnx (fun x hx => hlt x (List.mem_append_left _ hx))) (Below.trod Tryz.laidOut (by kernel_rfl) (of_decide_eq_true (by kernel_rfl)) h1k hnx (fun x hx => hlt x (List.mem_append_right _ hx)))
theorem DependWays_holds : Rows.DependWaysSaid :=
  OpenClaim.holds_of_wide 4 Tryz.f4 rfl rfl rfl rfl rfl rfl rfl ⟨rfl, rfl, rfl, rfl, rfl⟩ rfl rfl rfl rfl rfl (by kernel_rfl) Tryz.func4 (by kernel_rfl)
    (of_decide_eq_true (by kernel_rfl)) (by unfold Func.isWrapper; first | (rw [if_pos (by decide +kernel)]; kernel_rfl) | (rw [if_neg (by decide +kernel)]; exact ⟨rfl, rfl⟩))
    (fun os started H enc _ => DependWays_lifted os started H enc)
end Go.Proofs.YtojkakpkmfopbaaGreat
