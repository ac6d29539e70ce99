/- For all machines, inputs and lists of numbers, HistoryDecodes returns true. No condition. -/
import Derived.Test.YtmmfloplhopioaaGreatW7
set_option linter.unusedVariables false
set_option linter.unusedSimpArgs false
namespace Go.Proofs.YtmmfloplhopioaaGreat
open Go.AL Go.ChangeShapes Go.WideShapes Go.ChangeAt Go.RowKit

set_option maxRecDepth 100000 in
theorem historyDecodes_lifted (os:Os) (started:os.Started) (H:Type) (enc:TypeId×Value→H) :
    ReturnsInHanded {} Tryz.checked os 7 .any (Rows.historyDecodesSpec.pre6 enc Tryz.prog Tryz.f7 Rows.historyDecodesRow.domain false) (Rows.historyDecodesSpec.post enc Tryz.prog Tryz.f7 false true false false):=by
  refine returnsInHanded_of_change (C:=Tryz.checked) own started (by kernel_rfl) Tryz.func7
    (ChangeSpec.witness6 (enc:=enc) (C:=Tryz.checked) false ⟨#[],#[.agg #[.int .i64 0,.slice none 0 0],.slice none 0 0,.slice none 0 0],[]⟩ 8 (by kernel_rfl) (by kernel_rfl) (by kernel_rfl) (by kernel_rfl)) ?_
  intro W base args ds gs before hval0 hW hcnd _
  have hval:∀(j:Nat) t v,Tryz.f7.params[j]? = some t→args[j]? = some v→Value.okWide Tryz.prog W .any base t v:=hval0
  have hW':=hW
  obtain⟨p,q,hA0,hV,rfl,hfz,hnd⟩:=hW
  have hA:DataW.TrodAll enc Tryz.prog W 0 (fun _=>true) true Tryz.f7.params.toList args.toList ds p:=hA0
  have hlt:=hA.lt
  rw[Tryz.params7]at hA hval
  obtain⟨v0,vs0,d0,ds0,p0,q0,hargs,rfl,rfl,h0,r0⟩:=trodAll_cons hA
  obtain⟨v1,vs1,d1,ds1,p1,q1,rfl,rfl,rfl,h1,r1⟩:=trodAll_cons r0
  obtain⟨v2,vs2,d2,ds2,p2,q2,rfl,rfl,rfl,h2,r2⟩:=trodAll_cons r1
  obtain⟨rfl,rfl,rfl⟩:=trodAll_nil r2
  obtain rfl:args = #[v0,v1,v2]:=by cases args; simp_all
  obtain⟨rfl,rfl⟩:=trodVars_none hV
  obtain⟨fuel0,g0⟩:=h0
  obtain⟨us0,rfl,_⟩:=okWide_struct Tryz.underlying24 (hval 0 24 v0 rfl rfl)
  obtain⟨z0,hz0,hm0⟩:=trodMz g0
  obtain⟨fuel1,g1⟩:=h1
  obtain⟨A1,L1,C1,rfl⟩:=okWide_slice Tryz.underlying25 (hval 1 25 v1 rfl rfl)
  obtain⟨z1,u1,hu1,hz1,hm1⟩:=trodIsM g1
  have hx1:u1 = .slice A1 L1 C1:=by simpa[Value.cells]using hu1.symm
  subst hx1
  obtain⟨fuel2,g2⟩:=h2
  obtain⟨A2,L2,C2,rfl⟩:=okWide_slice Tryz.underlying33 (hval 2 33 v2 rfl rfl)
  obtain⟨z2,u2,hu2,hz2,hb2,hm2⟩:=trodXs1 g2
  have hx2:u2 = .slice A2 L2 C2:=by simpa[Value.cells]using hu2.symm
  subst hx2
  clear hA0 hval0
  simp only[List.append_nil]at hW' hlt
  have hcall:=HistoryDecodes_ok z0 z1 z2 (by simp only[maxLen]at hm0; omega) (by simp only[maxLen]at hm1; omega) hb2 (by simp only[maxLen]at hm2; omega)
  refine(hcall.calls W (hpOf W) _ (hpOf_has W) ⟨_,_,rfl,by simp only[Rep]; exact⟨us0,rfl,hz0⟩,⟨_,_,rfl,hz1,⟨_,_,rfl,hz2,rfl⟩⟩⟩).mono fun e W' ⟨u,h', he,hev,hrep⟩=>?_
  simp only[Rep]at hrep
  subst hrep he
  have hb:=below_of hev
  refine⟨_,rfl,_,_,_,[],p0++(p1++(p2++[])),[],hW', ?_,?_,rfl,World.keptBut_mono ?_ (hb.frame fun _=>False),fun k=>by cases k⟩
  · exact trodAll_mk1 (shut_bool Tryz.underlying4 _)
  · rw[Tryz.params7]
    exact(trodAll_cons_mk (Below.trod lb (by kernel_rfl) (of_decide_eq_true (by kernel_rfl)) ⟨fuel0,g0⟩ hb fun x hx=>hlt x (by simp[hx])) (trodAll_cons_mk (Below.trod lb (by kernel_rfl) (of_decide_eq_true (by kernel_rfl)) ⟨fuel1,g1⟩ hb fun x hx=>hlt x (by simp[hx])) (trodAll_cons_mk (Below.trod lb (by kernel_rfl) (of_decide_eq_true (by kernel_rfl)) ⟨fuel2,g2⟩ hb fun x hx=>hlt x (by simp[hx])) trodAll_mk0)))
  · exact fun _ h=>h.elim

theorem and_both {a b:Bool} (h1:a=true) (h2:b=true):(a&&b)=true:=by rw[h1,h2]; rfl
set_option maxHeartbeats 1000000000 in
set_option maxRecDepth 100000 in
theorem historyDecodes_facts:joinedFacts Tryz.checked.prog 7 Tryz.f7 Rows.historyDecodesSpec Rows.historyDecodesRow=true:=by
  delta joinedFacts
  iterate 31 (refine and_both ?_ (by as_aux_lemma=>kernel_rfl))
  as_aux_lemma=>kernel_rfl

theorem historyDecodes_holds:Rows.HistoryDecodesSaid:=
  OpenClaim.holds_of_wide 7 Tryz.f7 rfl rfl rfl rfl rfl rfl rfl ⟨rfl,rfl,rfl,rfl,rfl⟩ rfl rfl rfl rfl rfl (by kernel_rfl) Tryz.func7 historyDecodes_facts
    (of_decide_eq_true (by kernel_rfl)) (by unfold Func.isWrapper; first|(rw[if_pos (by decide +kernel)]; kernel_rfl)|(rw[if_neg (by decide +kernel)]; exact⟨rfl,rfl⟩))
    (fun os started H enc _=>historyDecodes_lifted os started H enc)
end Go.Proofs.YtmmfloplhopioaaGreat
