/- For all lists of numbers, DefineEquations returns true. No condition. -/
import Derived.Test.YtcaecieigoplbaaGreatW7
set_option linter.unusedVariables false
set_option linter.unusedSimpArgs false
namespace Go.Proofs.YtcaecieigoplbaaGreat
open Go.AL Go.ChangeShapes Go.WideShapes Go.ChangeAt Go.RowKit

set_option maxRecDepth 100000 in
theorem defineEquations_lifted (os : Os) (started : os.Started) (H : Type) (enc : TypeId × Value → H) :
    ReturnsInHanded {} Tryz.checked os 13 .any (Rows.defineEquationsSpec.pre6 enc Tryz.prog Tryz.f13 Rows.defineEquationsRow.domain false) (Rows.defineEquationsSpec.post enc Tryz.prog Tryz.f13 false true false false) := by
  refine returnsInHanded_of_change (C := Tryz.checked) own started (by kernel_rfl) Tryz.func13
    (ChangeSpec.witness6 (enc := enc) (C := Tryz.checked) false ⟨#[], #[.slice none 0 0], []⟩ 8 (by kernel_rfl) (by kernel_rfl) (by kernel_rfl) (by kernel_rfl)) ?_
  intro W base args ds gs before hval0 hW hcnd _
  have hval : ∀ (j : Nat) t v, Tryz.f13.params[j]? = some t → args[j]? = some v → Value.okWide Tryz.prog W .any base t v := hval0
  have hW' := hW
  obtain ⟨p, q, hA0, hV, rfl, hfz, hnd⟩ := hW
  have hA : DataW.TrodAll enc Tryz.prog W 0 (fun _ => true) true Tryz.f13.params.toList args.toList ds p := hA0
  have hlt := hA.lt
  rw [Tryz.params13] at hA hval
  obtain ⟨v0, vs0, d0, ds0, p0, q0, hargs, rfl, rfl, h0, r0⟩ := trodAll_cons hA
  obtain ⟨rfl, rfl, rfl⟩ := trodAll_nil r0
  obtain rfl : args = #[v0] := by cases args; simp_all
  obtain ⟨rfl, rfl⟩ := trodVars_none hV
  obtain ⟨fuel0, g0⟩ := h0
  obtain ⟨A0, L0, C0, rfl⟩ := okWide_slice Tryz.underlying27 (hval 0 27 v0 rfl rfl)
  obtain ⟨z0, u0, hu0, hz0, hb0, hm0⟩ := trodXs1 g0
  have hx0 : u0 = .slice A0 L0 C0 := by simpa [Value.cells] using hu0.symm
  subst hx0
  clear hA0 hval0
  simp only [List.append_nil] at hW' hlt
  have hcall := DefineEquations_ok z0 (fun z hz => (hb0 z hz).1) (by simp only [maxLen] at hm0; omega) (fun z hz => by have h1 := (hb0 z hz).2; simp only [maxLen] at h1; omega)
  refine (hcall.calls W (hpOf W) _ (hpOf_has W) ⟨_, _, rfl, hz0, rfl⟩).mono fun e W' ⟨u, h', he, hev, hrep⟩ => ?_
  simp only [Rep] at hrep
  subst hrep he
  have hb := below_of hev
  refine ⟨_, rfl, _, _, _, [], p0 ++ [], [], hW', ?_, ?_, rfl, World.keptBut_mono ?_ (hb.frame fun _ => False), fun k => by cases k⟩
  · exact trodAll_mk1 (shut_bool Tryz.underlying4 _)
  · rw [Tryz.params13]
    exact (trodAll_cons_mk (Below.trod lb (by kernel_rfl) (of_decide_eq_true (by kernel_rfl)) ⟨fuel0, g0⟩ hb fun x hx => hlt x (by simp [hx])) trodAll_mk0)
  · exact fun _ h => h.elim

theorem and_both {a b : Bool} (h1 : a = true) (h2 : b = true) : (a && b) = true := by rw [h1, h2]; rfl
set_option maxHeartbeats 1000000000 in
set_option maxRecDepth 100000 in
theorem defineEquations_facts : joinedFacts Tryz.checked.prog 13 Tryz.f13 Rows.defineEquationsSpec Rows.defineEquationsRow = true := by
  delta joinedFacts
  iterate 31 (refine and_both ?_ (by as_aux_lemma => kernel_rfl))
  as_aux_lemma => kernel_rfl

theorem defineEquations_holds : Rows.DefineEquationsSaid :=
  OpenClaim.holds_of_wide 13 Tryz.f13 rfl rfl rfl rfl rfl rfl rfl ⟨rfl, rfl, rfl, rfl, rfl⟩ rfl rfl rfl rfl rfl (by kernel_rfl) Tryz.func13 defineEquations_facts
    (of_decide_eq_true (by kernel_rfl)) (by unfold Func.isWrapper; first | (rw [if_pos (by decide +kernel)]; kernel_rfl) | (rw [if_neg (by decide +kernel)]; exact ⟨rfl, rfl⟩))
    (fun os started H enc _ => defineEquations_lifted os started H enc)
end Go.Proofs.YtcaecieigoplbaaGreat
