/- For all numbers a, b and every q, SystemBig returns true, and its arguments read as they did. No condition. -/
import Derived.Test.YtfkjhjgihbnegaaP5
set_option linter.unusedVariables false
set_option linter.unusedSimpArgs false
namespace Go.Proofs.Ytfkjhjgihbnegaa
open Go.AL Go.ChangeShapes Go.WideShapes Go.ChangeAt Go.RowKit

set_option maxRecDepth 100000 in
theorem systemBig_lifted (os : Os) (started : os.Started) (H : Type) (enc : TypeId × Value → H) :
    ReturnsInHanded {} Try.checked os 3 .any (Rows.systemBigSpec.pre6 enc Try.prog Try.f3 Rows.systemBigRow.domain false) (Rows.systemBigSpec.post enc Try.prog Try.f3 false true false false) := by
  refine returnsInHanded_of_change (C := Try.checked) own started (by kernel_rfl) Try.func3
    (ChangeSpec.witness6 (enc := enc) (C := Try.checked) false ⟨#[], #[.agg #[.bool false, .slice none 0 0], .agg #[.bool false, .slice none 0 0], .int .u32 0], []⟩ 8 (by kernel_rfl) (by kernel_rfl) (by kernel_rfl) (by kernel_rfl)) ?_
  intro W base args ds gs before hval0 hW hcnd _
  have hval : ∀ (j : Nat) t v, Try.f3.params[j]? = some t → args[j]? = some v → Value.okWide Try.prog W .any base t v := hval0
  have hW' := hW
  obtain ⟨p, q, hA0, hV, rfl, hfz, hnd⟩ := hW
  have hA : DataW.TrodAll enc Try.prog W 0 (fun _ => true) true Try.f3.params.toList args.toList ds p := hA0
  have hlt := hA.lt
  rw [Try.params3] at hA hval
  obtain ⟨v0, vs0, d0, ds0, p0, q0, hargs, rfl, rfl, h0, r0⟩ := trodAll_cons hA
  obtain ⟨v1, vs1, d1, ds1, p1, q1, rfl, rfl, rfl, h1, r1⟩ := trodAll_cons r0
  obtain ⟨v2, vs2, d2, ds2, p2, q2, rfl, rfl, rfl, h2, r2⟩ := trodAll_cons r1
  obtain ⟨rfl, rfl, rfl⟩ := trodAll_nil r2
  obtain rfl : args = #[v0, v1, v2] := by cases args; simp_all
  obtain ⟨rfl, rfl⟩ := trodVars_none hV
  obtain ⟨fuel0, g0⟩ := h0
  obtain ⟨us0, rfl, _⟩ := okWide_struct Try.underlying24 (hval 0 24 v0 rfl rfl)
  obtain ⟨z0, hz0, hb0⟩ := trodZ g0
  obtain ⟨fuel1, g1⟩ := h1
  obtain ⟨us1, rfl, _⟩ := okWide_struct Try.underlying24 (hval 1 24 v1 rfl rfl)
  obtain ⟨z1, hz1, hb1⟩ := trodZ g1
  obtain ⟨fuel2, g2⟩ := h2
  obtain ⟨n2, rfl⟩ := okWide_int Try.underlying25 (hval 2 25 v2 rfl rfl)
  obtain ⟨n2', hn2, hwf2⟩ := trodInt Try.underlying25 g2
  have hn22 : n2 = n2' := by simpa [Value.cells] using hn2
  subst hn22
  have hb2 := wfU32 hwf2
  clear hA0 hval0
  simp only [List.append_nil] at hW' hlt
  have hm0 := hb0.2; have hm1 := hb1.2
  have hcall := SystemBig_ok z0 z1 n2 hb0.1 hb1.1 (by simp only [maxLen] at hm0; omega) (by simp only [maxLen] at hm1; omega) hb2.1 hb2.2
  refine (hcall.calls W (hpOf W) _ (hpOf_has W) ⟨_, _, rfl, by simp only [Rep]; exact ⟨us0, rfl, hz0⟩, ⟨_, _, rfl, by simp only [Rep]; exact ⟨us1, rfl, hz1⟩, ⟨_, _, rfl, by simp only [Rep], rfl⟩⟩⟩).mono fun e W' ⟨u, h', he, hev, hrep⟩ => ?_
  simp only [Rep] at hrep
  subst hrep he
  have hb := below_of hev
  refine ⟨_, rfl, _, _, _, [], p0 ++ (p1 ++ (p2 ++ [])), [], hW', ?_, ?_, rfl, World.keptBut_mono ?_ (hb.frame fun _ => False), fun k => by cases k⟩
  · exact trodAll_mk1 (shut_bool Try.underlying4 _)
  · rw [Try.params3]
    exact (trodAll_cons_mk (Below.trod lb (by kernel_rfl) (of_decide_eq_true (by kernel_rfl)) ⟨fuel0, g0⟩ hb fun x hx => hlt x (by simp [hx])) (trodAll_cons_mk (Below.trod lb (by kernel_rfl) (of_decide_eq_true (by kernel_rfl)) ⟨fuel1, g1⟩ hb fun x hx => hlt x (by simp [hx])) (trodAll_cons_mk (Below.trod lb (by kernel_rfl) (of_decide_eq_true (by kernel_rfl)) ⟨fuel2, g2⟩ hb fun x hx => hlt x (by simp [hx])) trodAll_mk0)))
  · exact fun _ h => h.elim

theorem systemBig_holds : Rows.SystemBigSaid :=
  OpenClaim.holds_of_wide 3 Try.f3 rfl rfl rfl rfl rfl rfl rfl ⟨rfl, rfl, rfl, rfl, rfl⟩ rfl rfl rfl rfl rfl (by kernel_rfl) Try.func3 (by kernel_rfl)
    (of_decide_eq_true (by kernel_rfl)) (by unfold Func.isWrapper; first | (rw [if_pos (by decide +kernel)]; kernel_rfl) | (rw [if_neg (by decide +kernel)]; exact ⟨rfl, rfl⟩))
    (fun os started H enc _ => systemBig_lifted os started H enc)
end Go.Proofs.Ytfkjhjgihbnegaa
