/- For every number a and every n, SystemSquares returns true, and its arguments read as they did. No condition. -/
import Derived.Test.YtfkjhjgihbnegaaP5
namespace Go.Proofs.Ytfkjhjgihbnegaa
open Go.AL Go.ChangeShapes Go.WideShapes Go.ChangeAt Go.RowKit

theorem below_of {W W' : World} {h h' : Hp} (e : Evo never W h W' h') : Below W.heap.size W W' := ⟨e.os, e.tape, e.output, e.size, fun k hk => e.block k hk (fun x => x)⟩

set_option maxRecDepth 100000 in
theorem squares_lifted (os : Os) (started : os.Started) (H : Type) (enc : TypeId × Value → H) :
    ReturnsInHanded {} Try.checked os 5 .any (Rows.systemSquaresSpec.pre6 enc Try.prog Try.f5 Rows.systemSquaresRow.domain false) (Rows.systemSquaresSpec.post enc Try.prog Try.f5 false true false false) := by
  refine returnsInHanded_of_change (C := Try.checked) own started (by kernel_rfl) Try.func5
    (ChangeSpec.witness6 (enc := enc) (C := Try.checked) false ⟨#[], #[.agg #[.bool false, .slice none 0 0], .int .u8 0], []⟩ 8 (by kernel_rfl) (by kernel_rfl) (by kernel_rfl) (by kernel_rfl)) ?_
  intro W base args ds gs before hval0 hW hcnd _
  have hval : ∀ (j : Nat) t v, Try.f5.params[j]? = some t → args[j]? = some v → Value.okWide Try.prog W .any base t v := hval0
  have hW' := hW
  obtain ⟨p, q, hA0, hV, rfl, hfz, hnd⟩ := hW
  have hA : DataW.TrodAll enc Try.prog W 0 (fun _ => true) true Try.f5.params.toList args.toList ds p := hA0
  have hlt := hA.lt
  rw [Try.params5] at hA hval
  obtain ⟨v0, vs0, d0, ds0, p0, q0, hargs, rfl, rfl, h0, r0⟩ := trodAll_cons hA
  obtain ⟨v1, vs1, d1, ds1, p1, q1, rfl, rfl, rfl, h1, r1⟩ := trodAll_cons r0
  obtain ⟨rfl, rfl, rfl⟩ := trodAll_nil r1
  obtain rfl : args = #[v0, v1] := by cases args; simp_all
  obtain ⟨rfl, rfl⟩ := trodVars_none hV
  obtain ⟨us, rfl, _⟩ := okWide_struct Try.underlying24 (hval 0 24 v0 rfl rfl)
  obtain ⟨fuel0, g0⟩ := h0
  obtain ⟨z, hz, hzb⟩ := trodZ g0
  obtain ⟨n, rfl⟩ := okWide_int Try.underlying5 (hval 1 5 v1 rfl rfl)
  obtain ⟨fuel1, g1⟩ := h1
  obtain ⟨n', hn', hwf⟩ := trodInt Try.underlying5 g1
  have hn2 : n = n' := by simpa [Value.cells] using hn'
  subst hn2
  have hnb := wfU8 hwf
  clear hA0 hval0
  simp only [List.append_nil] at hW' hlt
  have hm := hzb.2
  have hcall := SystemSquares_ok z n hzb.1 (by simp only [maxLen] at hm; omega) hnb.1 hnb.2
  refine (hcall.calls W (hpOf W) _ (hpOf_has W) ⟨_, _, rfl, by simp only [Rep]; exact ⟨us, rfl, hz⟩, ⟨_, _, rfl, by simp only [Rep], rfl⟩⟩).mono fun e W' ⟨u, h', he, hev, hrep⟩ => ?_
  simp only [Rep] at hrep
  subst hrep he
  have hb := below_of hev
  refine ⟨_, rfl, _, _, _, [], p0 ++ (p1 ++ []), [], hW', ?_, ?_, rfl, World.keptBut_mono ?_ (hb.frame fun _ => False), fun k => by cases k⟩
  · exact trodAll_mk1 (shut_bool Try.underlying4 _)
  · rw [Try.params5]
    refine trodAll_cons_mk (Below.trod lb (by kernel_rfl) (of_decide_eq_true (by kernel_rfl)) ⟨fuel0, g0⟩ hb fun x hx => hlt x (by simp [hx])) (trodAll_cons_mk (Below.trod lb (by kernel_rfl) (of_decide_eq_true (by kernel_rfl)) ⟨fuel1, g1⟩ hb fun x hx => hlt x (by simp [hx])) trodAll_mk0)
  · exact fun _ h => h.elim

theorem squares_holds : Rows.SystemSquaresSaid :=
  OpenClaim.holds_of_wide 5 Try.f5 rfl rfl rfl rfl rfl rfl rfl ⟨rfl, rfl, rfl, rfl, rfl⟩ rfl rfl rfl rfl rfl (by kernel_rfl) Try.func5 (by kernel_rfl)
    (of_decide_eq_true (by kernel_rfl)) (by unfold Func.isWrapper; first | (rw [if_pos (by decide +kernel)]; kernel_rfl) | (rw [if_neg (by decide +kernel)]; exact ⟨rfl, rfl⟩))
    (fun os started H enc _ => squares_lifted os started H enc)
end Go.Proofs.Ytfkjhjgihbnegaa
