/- Part 7 of a proof layer and of the contracts of the functions. -/
import Derived.Laws.IdiomStrings
import Derived.Laws.StructEq
import Derived.Lib.SmallJoins
import Derived.Test.YtmmfloplhopioaaGreatW6
set_option linter.unusedVariables false
set_option linter.unusedSimpArgs false
/- Bytes az a string; the text of a small number; the reference's Parse of the law's machine. -/
namespace Go.AL
def e8 : UInt8 → List AV := fun b => [.v (.int .u8 b.toNat)]
section
variable {P : Program} {tab : Tab} {n : Nat} {s : St}
variable {ops : Array Oper} {draw : Dr} {o : Oper} {l : List Oper} {acc : List Eff} {K : Exit → St → Prop}
theorem OpJ.toS (ht : TabOk P tab) (hd : ∀ d, o.dst = some d → d < n) {t t' : TypeId} {x : Operand} (hop : o.op = .convert t t' x) {e : TypeId} {sz1 by1 sz2 by2 sz3 by3 : Nat} {z1 z2 z3 : List Value} (hts : tab t = some ⟨.slice e, sz1, by1, z1⟩) (hte : tab e = some ⟨.int .u8, sz2, by2, z2⟩) (htt : tab t' = some ⟨.string, sz3, by3, z3⟩) {bs : List UInt8} (hx : opd s x = .sl 1 e8 bs) (hne : bs ≠ []) : OpJ P n o s ⟨sV bs, [], [], [], []⟩ := by
 refine OpJ.of_run hd fun C s' a w h β ho _ b => ?_;have hxr := opd_rep b x;rw [ho x (by simp [hop, Op.operands]), hx] at hxr;simp only [Rep] at hxr;obtain ⟨A, c, e1, hc, hm, hall⟩ := hxr;have h1 := (ht _ _ hts).und;have h2 := (ht _ _ hte).und;have h3 := (ht _ _ htt).und;simp only at h1 h2 h3;have hpos : 0 < bs.length := List.length_pos_iff.2 hne;obtain ⟨ad, _, hA, _⟩ := hall 0 _ (List.getElem?_eq_getElem hpos);subst hA
 have hcell : ∀ j (hj : j < bs.length), w.cell? (ad.add j) = some (.int .u8 (bs[j].toNat : Int)) := fun j hj => by
  obtain ⟨ad', us, e2, e3, e4, e5⟩ := hall j _ (List.getElem?_eq_getElem hj);injection e2 with e2;subst e2;simp only [e8, RepL, Rep] at e4;obtain ⟨u, r, rfl, rfl, rfl⟩ := e4;have := (e5 0 _ rfl).cell b.evo.has;rw [Nat.mul_one, Nat.add_zero] at this;exact this
 refine ⟨.string ⟨bs.toArray⟩, ?_, by simp only [Rep]⟩;have := run_convert_bytes_back (P := P) w t t' e ad c bs h1 h2 h3 hcell;simp only [execOp, hop, e1, Sem.run_bind, this, Result.andThen, Sem.run_pure]
theorem Fl.toS [f : Facts P tab] {t t' : TypeId} {x : Operand} (hop : o.op = .convert t t' x) {e : TypeId} {sz1 by1 sz2 by2 sz3 by3 : Nat} {z1 z2 z3 : List Value} (hts : tab t = some ⟨.slice e, sz1, by1, z1⟩) (hte : tab e = some ⟨.int .u8, sz2, by2, z2⟩) (htt : tab t' = some ⟨.string, sz3, by3, z3⟩) {bs : List UInt8} (hx : opd s x = .sl 1 e8 bs) (hne : bs ≠ []) (hg : gOk ops s o = true) (hd : dOk n o.dst = true)
  (r : Fl P n ops draw l ((Eff.mk (sV bs) [] [] [] []).app o.dst s) (Eff.mk (sV bs) [] [] [] [] :: acc) K) : Fl P n ops draw (o :: l) s acc K :=
 Fl.opv hg (OpJ.toS f.tabOk (dOk_lt hd) hop hts hte htt hx hne) r
end
end Go.AL
namespace Go.Proofs.YtmmfloplhopioaaGreat
open Go.AL
theorem rText0_ok : PureFn Tryz.prog 218 [aX 0] (sV [48]) := by
 refine PureFn.of_body Tryz.func218 rfl Tryz.ntmps218 rfl rfl ?_;have c := rZero_ok (zOf 0);rw [show (zOf 0).w.length = 0 by show (toW 0).length = 0; rw [toW_zero]; rfl] at c;(repeat' (first |refine qv ?_ |apply qn |apply qs |apply qr |refine qe ?_|fail));refine qc (c) ?_;(repeat' (first |refine qv ?_ |apply qn |apply qs |apply qr |refine AWP.condT rfl ?_ |apply qt));exact RetOk.of rfl (AV.Le.refl _)
theorem rText1_ok : PureFn Tryz.prog 218 [aX 1] (sV [49]) := by
 refine PureFn.of_body Tryz.func218 rfl Tryz.ntmps218 rfl rfl ?_;have c := rZero_ok ⟨false, [1]⟩;have e1 : toW ((1 : Int).natAbs : Int) = [1] := toW_one;rw [show decide ((⟨false, [1]⟩ : Z).w.length = 0) = false from rfl] at c;have cs := short_ok 1 1000000000 (by omega) (by rw [toW_one]; simp) (by omega) (by omega);rw [toW_one] at cs;have cm := rMake_ok false (wdW 1 (1 / 1000000000)) (wdW_ok _ _) (by rw [wdW_length]; omega);rw [show sg false (val (wdW 1 (1 / 1000000000))) = 0 by simp [wdW, val, sg]] at cm;have e0 : toW ((0 : Int).natAbs : Int) = [] := toW_zero
 have cm' : PureFn Tryz.prog 54 [aB false, aW (wdW 1 (1 / 1000000000))] (.agg [aB false, aW []]) := by rw [← e0]; exact cm
 show AWP _ _ _ _ _ (St.init [.agg [aB (decide ((1 : Int) < 0)), aW (toW ((1 : Int).natAbs : Int))]]);rw [e1];refine AWP.seqS ?_;(repeat' (first |refine qv ?_ |apply qn |apply qr |refine qe ?_|fail));refine ⟨AWP.seqS ?_⟩;(repeat' (first |refine qv ?_ |apply qs |apply qr));refine qc (c) ?_;(repeat' (first |apply qn |refine AWP.condF rfl ?_ |apply qk));refine ⟨AWP.seqS ?_⟩;(repeat' (first |refine qv ?_ |apply qn |apply qr));refine ⟨AWP.seqS ?_⟩;(repeat' (first |refine qv ?_ |apply qn |apply qr));refine ⟨AWP.seqS ?_⟩;refine AWP.ent (Ent.nilrow 3 803 rfl rfl 1 e8 5) ?_;(repeat' (first |apply qb));refine AWP.loop (G := List Int × List UInt8) (fun (ws, l) => (ws = [1] ∧ l = []) ∨ (ws = [] ∧ l = [49])) (fun (ws, l) => St.of [] [(1, .ptr 1 0), (3, .row 3), (4, aW ws)] [(1, .cells [aB false, aW [1]] 48), (3, .row 1 e8 l 5)]) (fun (ws, _) => ws.length) ([1], []) (.inl ⟨rfl, rfl⟩) ?_ ?_
 ·refine Ent.of [(3, 803)] ?_ ?_ rfl rfl;(repeat' (first |exact True.intro |refine ⟨⟨AV.Le.refl _, rfl⟩, ?_⟩ |refine ⟨⟨⟨_, rfl, BLe.cells (LeL.refl _)⟩, rfl⟩, ?_⟩ |refine ⟨⟨⟨_, rfl, BLe.row rfl⟩, rfl⟩, ?_⟩|fail))
 ·rintro ⟨ws, l⟩ (⟨rfl, rfl⟩ | ⟨rfl, rfl⟩)
  ·refine AWP.seqS ?_;(repeat' (first |refine qv ?_ |apply qn |apply qs |apply qr |refine AWP.condT rfl ?_ |apply qk));refine ⟨?_⟩;(repeat' (first |refine qv ?_ |apply qn |apply qs |apply qr |apply qb));refine qc (cs) ?_;(repeat' (first |refine qv ?_ |apply qn |apply qs |apply qr));refine qc (cm') ?_;(repeat' (first |refine qv ?_ |apply qn |apply qs |apply qr |apply qb));refine AWP.loop (G := Int × Int × List UInt8) (fun (k, r, l) => (k = 0 ∧ r = 1 ∧ l = []) ∨ (k = 1 ∧ r = 0 ∧ l = [49])) (fun (k, r, l) => St.of [] [(1, .ptr 1 0), (3, .row 3), (4, aW []), (5, .v (.int .u32 r)), (6, aN k)] [(1, .cells [aB false, aW [1]] 48), (3, .row 1 e8 l 5)]) (fun (k, _, _) => (1 - k).toNat) (0, 1, []) (.inl ⟨rfl, rfl, rfl⟩) ?_ ?_
   ·refine Ent.of [] ?_ ?_ rfl rfl;(repeat' (first |exact True.intro |refine ⟨⟨AV.Le.refl _, rfl⟩, ?_⟩ |refine ⟨⟨⟨_, rfl, BLe.cells (LeL.refl _)⟩, rfl⟩, ?_⟩ |refine ⟨⟨⟨_, rfl, BLe.row rfl⟩, rfl⟩, ?_⟩|fail))
   ·rintro ⟨k, r, l⟩ (⟨rfl, rfl, rfl⟩ | ⟨rfl, rfl, rfl⟩)
    ·refine AWP.seqS ?_;(repeat' (first |refine qv ?_ |apply qn |apply qs |apply qr |refine AWP.condT rfl ?_ |apply qk));refine ⟨?_⟩;(repeat' (first |refine qv ?_ |apply qs |apply qr |refine qw ?_ |apply qb));refine ql e8 [49] ?_;skip;refine qa (hby := (by simp)) (hm := (by simp)) (r := ?_);(repeat' (first |refine qv ?_ |apply qn |apply qr |refine qw ?_ |refine Fl.w rfl rfl rfl ⟨by omega, by omega, by dsimp only [hiK]; omega⟩ ?_|fail));refine LoopEnd.of (1, 0, [49]) (.inr ⟨rfl, rfl, rfl⟩) (by decide) ?_;refine Ent.of [(3, 42)] ?_ ?_ rfl rfl;(repeat' (first |exact True.intro |refine ⟨⟨AV.Le.refl _, rfl⟩, ?_⟩ |refine ⟨⟨⟨_, rfl, BLe.cells (LeL.refl _)⟩, rfl⟩, ?_⟩ |refine ⟨⟨⟨_, rfl, BLe.row rfl⟩, rfl⟩, ?_⟩|fail))
    ·refine AWP.seqS ?_;(repeat' (first |refine qv ?_ |apply qn |apply qs |apply qr |refine AWP.condF rfl ?_ |apply qx));refine LoopEnd.of ([], [49]) (.inr ⟨rfl, rfl⟩) (by simp) ?_;refine Ent.of [] ?_ ?_ rfl rfl;(repeat' (first |exact True.intro |refine ⟨⟨AV.Le.refl _, rfl⟩, ?_⟩ |refine ⟨⟨⟨_, rfl, BLe.cells (LeL.refl _)⟩, rfl⟩, ?_⟩ |refine ⟨⟨⟨_, rfl, BLe.row rfl⟩, rfl⟩, ?_⟩|fail))
  ·(repeat' (first |refine qv ?_ |apply qn |apply qs |apply qr |refine AWP.condF rfl ?_ |apply qx));refine ⟨AWP.seqS ?_⟩;(repeat' (first |refine qv ?_ |apply qn |apply qs |apply qr |refine AWP.condF rfl ?_ |apply qk));refine ⟨AWP.seqS ?_⟩;(repeat' (first |refine qv ?_ |apply qn |apply qs |apply qr |apply qb));obtain ⟨l0, hl0⟩ : ∃ l0 : List UInt8, l0 = [49] := ⟨_, rfl⟩
   have hlen : l0.length = 1 := by rw [hl0]; rfl
   refine AWP.loop (G := Unit) (fun _ => True) (fun _ => St.of [] [(3, .row 3), (7, aN 0)] [(3, .row 1 e8 l0 5)]) (fun _ => 0) () trivial ?_ ?_
   ·refine Ent.of [] ?_ ?_ rfl rfl;(repeat' (first |exact True.intro |refine ⟨⟨AV.Le.refl _, rfl⟩, ?_⟩ |refine ⟨⟨⟨_, rfl, BLe.row ?_⟩, rfl⟩, ?_⟩|fail));exact hl0.symm
   ·intro _ _;(repeat' (first |refine qv ?_ |apply qn |apply qs |apply qr |refine Fl.w rfl rfl rfl ⟨by omega, by omega, by dsimp only [hiK]; omega⟩ ?_ |(refine AWP.condD rfl ?_ ?_ <;> intro _ <;> try (exfalso; omega)) |apply qx));refine ⟨?_⟩;refine AWP.ent (Ent.freeze 3 rfl) ?_;(repeat' (first |refine qv ?_ |apply qs |apply qr));refine Fl.toS rfl rfl rfl rfl rfl (by rw [hl0]; simp) rfl rfl ?_;(repeat' (first |refine qv ?_ |apply qn |apply qt));exact RetOk.of rfl (AV.Le.of_eq (by rw [hl0]))
theorem rNum_ok (n : Int) (l : List UInt8) (h : (n = 0 ∧ l = [48]) ∨ (n = 1 ∧ l = [49])) : PureFn Tryz.prog 198 [aN n] (sV l) := by
 refine PureFn.of_body Tryz.func198 rfl Tryz.ntmps198 rfl rfl ?_
 have c : PureFn Tryz.prog 218 [aX n] (sV l) := by
  rcases h with ⟨rfl, rfl⟩ | ⟨rfl, rfl⟩
  ·exact rText0_ok
  ·exact rText1_ok
 (repeat' (first |refine qv ?_ |apply qn |apply qs |apply qr));refine qc (rOf_ok n (by omega) (by omega)) ?_;skip;refine qc (c) ?_;(repeat' (first |refine qv ?_ |apply qn |apply qt));exact RetOk.of rfl (AV.Le.refl _)
theorem r13Digits_ok (bs : List UInt8) (i : Nat) (c : UInt8) (hl : bs.length ≤ 1000) (hc : bs[i]? = some c) (h0 : 48 ≤ c.toNat) (h9 : c.toNat ≤ 57) (hn : ∀ d : UInt8, bs[i + 1]? = some d → ¬ (48 ≤ d.toNat ∧ d.toNat ≤ 57)) : PureFn Tryz.prog 167 [sV bs, aN i] (.tup [aN ((c.toNat : Int) - 48), aN ((i : Int) + 1)]) := by
 refine PureFn.of_body Tryz.func167 rfl Tryz.ntmps167 rfl rfl ?_;have hi : i < bs.length := (List.getElem?_eq_some_iff.1 hc).1
 have hc1 : bs[Int.toNat (i : Int)]? = some c := by rw [Int.toNat_natCast]; exact hc
 (repeat' (first |refine qv ?_ |apply qn |apply qs |apply qr |apply qb));refine AWP.loop (G := Int × Int) (fun (a, v) => (a = i ∧ v = 0) ∨ (a = i + 1 ∧ v = (c.toNat : Int) - 48)) (fun (a, v) => St.of [] [(0, sV bs), (1, aN a), (6, aN v), (7, aN i)] []) (fun (a, _) => (i + 1 - a).toNat) (i, 0) (.inl ⟨rfl, rfl⟩) ?_ ?_
 ·refine Ent.of [] ?_ ?_ rfl rfl;(repeat' (first |exact True.intro |refine ⟨⟨AV.Le.refl _, rfl⟩, ?_⟩|fail))
 ·rintro ⟨a, v⟩ (⟨rfl, rfl⟩ | ⟨rfl, rfl⟩)
  ·refine AWP.seqS ?_;(repeat' (first |refine Fl.sLen rfl rfl rfl rfl rfl ?_ |refine Fl.sIdx rfl rfl rfl rfl rfl rfl (by assumption) (by omega) ?_ |refine qv ?_ |apply qn |apply qs |apply qr |refine qw ?_ |(refine AWP.condD rfl ?_ ?_ <;> intro _ <;> try (exfalso; omega)) |apply qk |(refine Fl.splitD rfl rfl ?_ ?_ <;> intro _ <;> try (exfalso; omega))));refine ⟨?_⟩;(repeat' (first |refine Fl.sIdx rfl rfl rfl rfl rfl rfl (by assumption) (by omega) ?_ |refine qv ?_ |apply qn |apply qs |apply qr |refine qw ?_ |apply qb |refine Fl.cvS rfl rfl rfl rfl rfl rfl ?_));refine LoopEnd.of ((i : Int) + 1, (c.toNat : Int) - 48) (.inr ⟨rfl, rfl⟩) (by simp only; omega) ?_;refine Ent.of [] ?_ ?_ rfl rfl;(repeat' (first |exact True.intro |refine ⟨⟨AV.Le.refl _, rfl⟩, ?_⟩ |refine ⟨⟨AV.Le.int ?_, rfl⟩, ?_⟩|fail));omega
  ·by_cases h1 : i + 1 < bs.length
   ·obtain ⟨d, hd⟩ : ∃ d, bs[i + 1]? = some d := ⟨_, List.getElem?_eq_getElem h1⟩
    have hd1 : bs[Int.toNat ((i : Int) + 1)]? = some d := by rw [show ((i : Int) + 1).toNat = i + 1 by omega]; exact hd
    have hd2 := hn d hd;refine AWP.seqS ?_;(repeat' (first |refine Fl.sLen rfl rfl rfl rfl rfl ?_ |refine Fl.sIdx rfl rfl rfl rfl rfl rfl (by assumption) (by omega) ?_ |refine qv ?_ |apply qn |apply qs |apply qr |refine qw ?_ |refine Fl.skip rfl rfl ?_ |refine AWP.condF rfl ?_ |(refine AWP.condD rfl ?_ ?_ <;> intro _ <;> try (exfalso; omega)) |apply qx |apply qt |(refine Fl.splitD rfl rfl ?_ ?_ <;> intro _ <;> try (exfalso; omega))))
    all_goals exact RetOk.of rfl (AV.Le.refl _)
   ·refine AWP.seqS ?_;(repeat' (first |refine Fl.sLen rfl rfl rfl rfl rfl ?_ |refine qv ?_ |apply qn |apply qs |apply qr |refine Fl.skip rfl rfl ?_ |refine AWP.condF rfl ?_ |apply qx |apply qt |(refine Fl.splitD rfl rfl ?_ ?_ <;> intro _ <;> try (exfalso; omega))));exact RetOk.of rfl (AV.Le.refl _)
theorem r13Insn1_ok : PureFn Tryz.prog 168 [sV [105, 48, 62, 49]] (aIz ⟨0, 0, 1, 0⟩) := by
 refine PureFn.of_body Tryz.func168 rfl Tryz.ntmps168 rfl rfl ?_;have d1 : PureFn Tryz.prog 167 [sV [105, 48, 62, 49], aN 1] (.tup [aN 0, aN 2]) := r13Digits_ok [105, 48, 62, 49] 1 48 (by decide) rfl (by decide) (by decide) (by intro d hd; injection hd with hd; subst hd; decide);have d2 : PureFn Tryz.prog 167 [sV [105, 48, 62, 49], aN 3] (.tup [aN 1, aN 4]) := r13Digits_ok [105, 48, 62, 49] 3 49 (by decide) rfl (by decide) (by decide) (by intro d hd; cases hd);obtain ⟨bs, hbs⟩ : ∃ bs : List UInt8, bs = [105, 48, 62, 49] := ⟨_, rfl⟩
 have hl : bs.length = 4 := by rw [hbs]; rfl
 obtain ⟨c, hc, hcn⟩ : ∃ c : UInt8, bs[Int.toNat 0]? = some c ∧ c.toNat = 105 := ⟨105, by rw [hbs]; rfl, rfl⟩;rw [← hbs] at d1 d2 ⊢;(repeat' (first |refine Fl.sLen rfl rfl rfl rfl rfl ?_ |refine Fl.sIdx rfl rfl rfl rfl rfl rfl (by assumption) (by omega) ?_ |refine qv ?_ |apply qn |apply qs |apply qr |refine qe ?_ |(refine AWP.condD rfl ?_ ?_ <;> intro _ <;> try (exfalso; omega)) |apply qb |apply qk));refine Fl.call rfl d1 rfl rfl rfl (LeL.refl _) ?_;(repeat' (first |refine qv ?_ |apply qn |apply qs |apply qr |refine qw ?_ |refine qe ?_|fail));refine Fl.call rfl d2 rfl rfl rfl (LeL.refl _) ?_;(repeat' (first |refine qv ?_ |apply qn |apply qs |apply qr |refine qe ?_ |refine AWP.condF rfl ?_ |apply qk |apply qt));exact RetOk.of rfl (AV.Le.refl _)
theorem r13InsnH_ok : PureFn Tryz.prog 168 [sV [104]] (aIz ⟨3, 0, 0, 0⟩) := by
 refine PureFn.of_body Tryz.func168 rfl Tryz.ntmps168 rfl rfl ?_;obtain ⟨bs, hbs⟩ : ∃ bs : List UInt8, bs = [104] := ⟨_, rfl⟩
 have hl : bs.length = 1 := by rw [hbs]; rfl
 rw [← hbs];(repeat' (first |refine Fl.sLen rfl rfl rfl rfl rfl ?_ |refine qv ?_ |apply qn |apply qs |apply qr |refine qe ?_ |(refine AWP.condD rfl ?_ ?_ <;> intro _ <;> try (exfalso; omega)) |apply qt));exact RetOk.of rfl (AV.Le.refl _)
abbrev m14 : MZ := ⟨1, [⟨0, 0, 1, 0⟩, ⟨3, 0, 0, 0⟩]⟩
theorem r13Text_ok : PureFn Tryz.prog 169 [aMz m14] (sV [49, 32, 105, 48, 62, 49, 32, 104]) := by
 refine PureFn.of_body Tryz.func169 rfl Tryz.ntmps169 rfl rfl ?_;have n1 := rNum_ok 1 [49] (.inr ⟨rfl, rfl⟩);have n0 := rNum_ok 0 [48] (.inl ⟨rfl, rfl⟩);obtain ⟨cd, hcd⟩ : ∃ cd, cd = m14.code := ⟨_, rfl⟩
 have hl : cd.length = 2 := by rw [hcd]; rfl
 have q0 : cd[Int.toNat ((0 : Nat) : Int)]? = some ⟨0, 0, 1, 0⟩ := by rw [hcd]; rfl
 have q1 : cd[Int.toNat ((1 : Nat) : Int)]? = some ⟨3, 0, 0, 0⟩ := by rw [hcd]; rfl
 show AWP _ _ _ _ _ (St.init [.agg [aN 1, .sl 4 eIz m14.code]]);rw [← hcd];refine AWP.seqS ?_;(repeat' (first |refine qv ?_ |apply qn |apply qr |refine qe ?_|fail));refine ⟨AWP.seqS ?_⟩;(repeat' (first |refine qv ?_ |apply qr));refine Fl.call rfl n1 rfl rfl rfl (LeL.refl _) ?_;(repeat' (first |refine qv ?_ |apply qn));refine ⟨AWP.seqS ?_⟩;(repeat' (first |refine qv ?_ |apply qn |apply qs |apply qr |apply qb));refine AWP.loop (G := Nat × List UInt8) (fun (i, l) => (i = 0 ∧ l = [49]) ∨ (i = 1 ∧ l = [49, 32, 105, 48, 62, 49]) ∨ (i = 2 ∧ l = [49, 32, 105, 48, 62, 49, 32, 104])) (fun (i, l) => St.of [] [(1, .ptr 1 0), (3, sV l), (4, aN i)] [(1, .cells [aN 1, .sl 4 eIz cd] 24)]) (fun (i, _) => 2 - i) (0, [49]) (.inl ⟨rfl, rfl⟩) ?_ ?_
 ·refine Ent.of [] ?_ ?_ rfl rfl;(repeat' (first |exact True.intro |refine ⟨⟨AV.Le.refl _, rfl⟩, ?_⟩ |refine ⟨⟨⟨_, rfl, BLe.cells (LeL.refl _)⟩, rfl⟩, ?_⟩|fail))
 ·rintro ⟨i, l⟩ (⟨rfl, rfl⟩ | ⟨rfl, rfl⟩ | ⟨rfl, rfl⟩)
  ·(repeat' (first |refine Fl.sCat rfl rfl rfl rfl rfl rfl (by decide) ?_ |refine qv ?_ |apply qn |apply qs |apply qr |refine qe ?_ |refine AWP.condT rfl ?_ |(refine AWP.condD rfl ?_ ?_ <;> intro _ <;> try (exfalso; omega)) |apply qb |apply qk |refine qK ?_|fail));refine Fl.call rfl n0 rfl rfl rfl (LeL.refl _) ?_;(repeat' (first |refine Fl.sCat rfl rfl rfl rfl rfl rfl (by decide) ?_ |refine qv ?_|fail));refine Fl.call rfl n1 rfl rfl rfl (LeL.refl _) ?_;(repeat' (first |refine Fl.sCat rfl rfl rfl rfl rfl rfl (by decide) ?_ |refine qv ?_ |apply qn |refine Fl.nil (fun _ => by kernel_rfl) ?_ |apply qr |refine qw ?_|fail));refine LoopEnd.of (1, [49, 32, 105, 48, 62, 49]) (.inr (.inl ⟨rfl, rfl⟩)) (by decide) ?_;refine Ent.of [] ?_ ?_ rfl rfl;(repeat' (first |exact True.intro |refine ⟨⟨AV.Le.refl _, rfl⟩, ?_⟩ |refine ⟨⟨⟨_, rfl, BLe.cells (LeL.refl _)⟩, rfl⟩, ?_⟩|fail))
  ·(repeat' (first |refine Fl.sCat rfl rfl rfl rfl rfl rfl (by decide) ?_ |refine qv ?_ |apply qn |apply qs |apply qr |refine qw ?_ |refine qe ?_ |refine AWP.condF rfl ?_ |(refine AWP.condD rfl ?_ ?_ <;> intro _ <;> try (exfalso; omega)) |apply qb |apply qk |refine qK ?_|fail));refine LoopEnd.of (2, [49, 32, 105, 48, 62, 49, 32, 104]) (.inr (.inr ⟨rfl, rfl⟩)) (by decide) ?_;refine Ent.of [] ?_ ?_ rfl rfl;(repeat' (first |exact True.intro |refine ⟨⟨AV.Le.refl _, rfl⟩, ?_⟩ |refine ⟨⟨⟨_, rfl, BLe.cells (LeL.refl _)⟩, rfl⟩, ?_⟩|fail))
  ·(repeat' (first |refine qv ?_ |apply qn |apply qs |apply qr |(refine AWP.condD rfl ?_ ?_ <;> intro _ <;> try (exfalso; omega)) |apply qx));refine ⟨?_⟩;(repeat' (first |refine qv ?_ |apply qn |apply qs |apply qr |apply qt));exact RetOk.of rfl (AV.Le.refl _)
set_option maxHeartbeats 4000000 in
theorem r13Parse_ok : PureFn Tryz.prog 116 [sV [49, 32, 105, 48, 62, 49, 32, 104]] (.tup [aMz m14, aB true]) := by
 refine PureFn.of_body Tryz.func116 rfl Tryz.ntmps116 rfl rfl ?_;have u0 : (49 : UInt8).toNat = 49 := rfl;have u1 : (32 : UInt8).toNat = 32 := rfl;have u2 : (105 : UInt8).toNat = 105 := rfl;have u3 : (48 : UInt8).toNat = 48 := rfl;have u4 : (62 : UInt8).toNat = 62 := rfl;have u5 : (104 : UInt8).toNat = 104 := rfl;have d0 : PureFn Tryz.prog 167 [sV [49], aN 0] (.tup [aN 1, aN 1]) := r13Digits_ok [49] 0 49 (by decide) rfl (by decide) (by decide) (by intro d hd; cases hd);have i1 := r13Insn1_ok;have i2 := r13InsnH_ok;have ct := r13Text_ok
 have cv := r13Valid_ok m14 (by decide) true ⟨fun _ => ⟨by decide, by decide, by decide, by decide, fun i hi => by
  have hi : i < 2 := hi;rcases (show i = 0 ∨ i = 1 by omega) with rfl | rfl
  ·exact .inr ⟨by decide, by decide, .inr ⟨.inl rfl, rfl⟩⟩
  ·exact .inl rfl⟩, fun _ => rfl⟩
 refine AWP.seqS ?_;(repeat' (first |refine qv ?_ |apply qn |apply qr |refine qe ?_|fail));refine ⟨AWP.seqS ?_⟩;(repeat' (first |refine Fl.sLen rfl rfl rfl rfl rfl ?_ |refine qv ?_ |apply qn |apply qs |apply qr |refine AWP.condF rfl ?_ |apply qk));refine ⟨AWP.seqS ?_⟩;(repeat' (first |apply qn |apply qr |refine qe ?_|fail));refine ⟨AWP.seqS ?_⟩;(repeat' (first |refine qv ?_ |apply qn |apply qr));refine ⟨AWP.seqS ?_⟩;refine AWP.ent (Ent.nilcell 4 1 806 rfl rfl rfl 4 eIz 77) ?_;(repeat' (first |refine qv ?_ |apply qn |apply qs |apply qr |apply qb));obtain ⟨bs, hbs⟩ : ∃ bs : List UInt8, bs = [49, 32, 105, 48, 62, 49, 32, 104] := ⟨_, rfl⟩
 have hl : bs.length = 8 := by rw [hbs]; rfl
 rw [← hbs] at ct ⊢
 have g0 : bs[Int.toNat ((0 : Nat) : Int)]? = some 49 := by rw [hbs]; rfl
 have g1 : bs[Int.toNat ((1 : Nat) : Int)]? = some 32 := by rw [hbs]; rfl
 have g2 : bs[Int.toNat ((2 : Nat) : Int)]? = some 105 := by rw [hbs]; rfl
 have g3 : bs[Int.toNat ((3 : Nat) : Int)]? = some 48 := by rw [hbs]; rfl
 have g4 : bs[Int.toNat ((4 : Nat) : Int)]? = some 62 := by rw [hbs]; rfl
 have g5 : bs[Int.toNat ((5 : Nat) : Int)]? = some 49 := by rw [hbs]; rfl
 have g6 : bs[Int.toNat ((6 : Nat) : Int)]? = some 32 := by rw [hbs]; rfl
 have g7 : bs[Int.toNat ((7 : Nat) : Int)]? = some 104 := by rw [hbs]; rfl
 have s1 : (bs.drop (0 : Int).toNat).take (((1 : Nat) : Int).toNat - (0 : Int).toNat) = [49] := by rw [hbs]; rfl
 have s2 : (bs.drop (2 : Int).toNat).take (((6 : Nat) : Int).toNat - (2 : Int).toNat) = [105, 48, 62, 49] := by rw [hbs]; rfl
 have s3 : (bs.drop (7 : Int).toNat).take (((8 : Nat) : Int).toNat - (7 : Int).toNat) = [104] := by rw [hbs]; rfl
 refine AWP.loop (G := Nat × Int × Bool × Int × List IZ) (fun (i, fr, ft, rg, cd) => (i ≤ 1 ∧ fr = 0 ∧ ft = true ∧ rg = 0 ∧ cd = []) ∨ (2 ≤ i ∧ i ≤ 6 ∧ fr = 2 ∧ ft = false ∧ rg = 1 ∧ cd = []) ∨ (7 ≤ i ∧ i ≤ 8 ∧ fr = 7 ∧ ft = false ∧ rg = 1 ∧ cd = [⟨0, 0, 1, 0⟩]) ∨ (i = 9 ∧ ft = false ∧ rg = 1 ∧ cd = [⟨0, 0, 1, 0⟩, ⟨3, 0, 0, 0⟩])) (fun (i, fr, ft, rg, cd) => St.of [] [(0, sV bs), (2, .ptr 2 0), (4, .ptr 4 0), (5, aN fr), (6, aB ft), (7, aN i)] [(2, .cells [aN 0, .v (.slice none 0 0)] 24), (4, .cells [aN rg, .row 806] 24), (806, .row 4 eIz cd 77)]) (fun (i, _, _, _, _) => 9 - i) (0, 0, true, 0, []) (.inl ⟨by omega, rfl, rfl, rfl, rfl⟩) ?_ ?_
 ·refine Ent.of [] ?_ ?_ rfl rfl;(repeat' (first |exact True.intro |refine ⟨⟨AV.Le.refl _, rfl⟩, ?_⟩ |refine ⟨⟨⟨_, rfl, BLe.cells (LeL.refl _)⟩, rfl⟩, ?_⟩ |refine ⟨⟨⟨_, rfl, BLe.row rfl⟩, rfl⟩, ?_⟩|fail))
 ·rintro ⟨i, fr, ft, rg, cd⟩ (⟨k0, rfl, rfl, rfl, rfl⟩ | ⟨k0, k1, rfl, rfl, rfl, rfl⟩ | ⟨k0, k1, rfl, rfl, rfl, rfl⟩ | ⟨rfl, rfl, rfl, rfl⟩)
  ·rcases (show i = 0 ∨ i = 1 by omega) with rfl | rfl
   ·(repeat' (first |refine Fl.sLen rfl rfl rfl rfl rfl ?_ |refine Fl.sIdx rfl rfl rfl rfl rfl rfl (by assumption) (by omega) ?_ |refine qv ?_ |apply qn |apply qs |apply qr |refine qw ?_ |refine AWP.condT rfl ?_ |apply qb |apply qk |apply qx |(refine Fl.splitD rfl rfl ?_ ?_ <;> intro _ <;> try (exfalso; omega))));refine LoopEnd.of (1, 0, true, 0, []) (.inl ⟨by omega, rfl, rfl, rfl, rfl⟩) (by simp) ?_;refine Ent.of [] ?_ ?_ rfl rfl;(repeat' (first |exact True.intro |refine ⟨⟨AV.Le.refl _, rfl⟩, ?_⟩ |refine ⟨⟨⟨_, rfl, BLe.cells (LeL.refl _)⟩, rfl⟩, ?_⟩ |refine ⟨⟨⟨_, rfl, BLe.row rfl⟩, rfl⟩, ?_⟩|fail))
   ·(repeat' (first |refine Fl.sLen rfl rfl rfl rfl rfl ?_ |refine Fl.sIdx rfl rfl rfl rfl rfl rfl (by assumption) (by omega) ?_ |refine qv ?_ |apply qn |apply qs |apply qr |refine AWP.condT rfl ?_ |refine AWP.condF rfl ?_ |(refine AWP.condD rfl ?_ ?_ <;> intro _ <;> try (exfalso; omega)) |apply qb |apply qk |(refine Fl.splitD rfl rfl ?_ ?_ <;> intro _ <;> try (exfalso; omega))));refine Fl.sSub rfl rfl rfl rfl rfl rfl rfl s1 (by decide) (by decide) (by omega) ?_;skip;refine Fl.call rfl d0 rfl rfl rfl (LeL.refl _) ?_;(repeat' (first |refine qv ?_ |apply qn |apply qr |refine qw ?_ |refine qe ?_|fail));refine LoopEnd.of (2, 2, false, 1, []) (.inr (.inl ⟨by omega, by omega, rfl, rfl, rfl, rfl⟩)) (by simp) ?_;refine Ent.of [] ?_ ?_ rfl rfl;(repeat' (first |exact True.intro |refine ⟨⟨AV.Le.refl _, rfl⟩, ?_⟩ |refine ⟨⟨⟨_, rfl, BLe.cells (LeL.refl _)⟩, rfl⟩, ?_⟩ |refine ⟨⟨⟨_, rfl, BLe.row rfl⟩, rfl⟩, ?_⟩|fail))
  ·rcases (show i = 2 ∨ i = 3 ∨ i = 4 ∨ i = 5 ∨ i = 6 by omega) with rfl | rfl | rfl | rfl | rfl
   ·(repeat' (first |refine Fl.sLen rfl rfl rfl rfl rfl ?_ |refine Fl.sIdx rfl rfl rfl rfl rfl rfl (by assumption) (by omega) ?_ |refine qv ?_ |apply qn |apply qs |apply qr |refine qw ?_ |refine AWP.condT rfl ?_ |(refine AWP.condD rfl ?_ ?_ <;> intro _ <;> try (exfalso; omega)) |apply qb |apply qk |apply qx |(refine Fl.splitD rfl rfl ?_ ?_ <;> intro _ <;> try (exfalso; omega))));refine LoopEnd.of (3, 2, false, 1, []) (.inr (.inl ⟨by omega, by omega, rfl, rfl, rfl, rfl⟩)) (by simp) ?_;refine Ent.of [] ?_ ?_ rfl rfl;(repeat' (first |exact True.intro |refine ⟨⟨AV.Le.refl _, rfl⟩, ?_⟩ |refine ⟨⟨⟨_, rfl, BLe.cells (LeL.refl _)⟩, rfl⟩, ?_⟩ |refine ⟨⟨⟨_, rfl, BLe.row rfl⟩, rfl⟩, ?_⟩|fail))
   ·(repeat' (first |refine Fl.sLen rfl rfl rfl rfl rfl ?_ |refine Fl.sIdx rfl rfl rfl rfl rfl rfl (by assumption) (by omega) ?_ |refine qv ?_ |apply qn |apply qs |apply qr |refine qw ?_ |refine AWP.condT rfl ?_ |(refine AWP.condD rfl ?_ ?_ <;> intro _ <;> try (exfalso; omega)) |apply qb |apply qk |apply qx |(refine Fl.splitD rfl rfl ?_ ?_ <;> intro _ <;> try (exfalso; omega))));refine LoopEnd.of (4, 2, false, 1, []) (.inr (.inl ⟨by omega, by omega, rfl, rfl, rfl, rfl⟩)) (by simp) ?_;refine Ent.of [] ?_ ?_ rfl rfl;(repeat' (first |exact True.intro |refine ⟨⟨AV.Le.refl _, rfl⟩, ?_⟩ |refine ⟨⟨⟨_, rfl, BLe.cells (LeL.refl _)⟩, rfl⟩, ?_⟩ |refine ⟨⟨⟨_, rfl, BLe.row rfl⟩, rfl⟩, ?_⟩|fail))
   ·(repeat' (first |refine Fl.sLen rfl rfl rfl rfl rfl ?_ |refine Fl.sIdx rfl rfl rfl rfl rfl rfl (by assumption) (by omega) ?_ |refine qv ?_ |apply qn |apply qs |apply qr |refine qw ?_ |refine AWP.condT rfl ?_ |(refine AWP.condD rfl ?_ ?_ <;> intro _ <;> try (exfalso; omega)) |apply qb |apply qk |apply qx |(refine Fl.splitD rfl rfl ?_ ?_ <;> intro _ <;> try (exfalso; omega))));refine LoopEnd.of (5, 2, false, 1, []) (.inr (.inl ⟨by omega, by omega, rfl, rfl, rfl, rfl⟩)) (by simp) ?_;refine Ent.of [] ?_ ?_ rfl rfl;(repeat' (first |exact True.intro |refine ⟨⟨AV.Le.refl _, rfl⟩, ?_⟩ |refine ⟨⟨⟨_, rfl, BLe.cells (LeL.refl _)⟩, rfl⟩, ?_⟩ |refine ⟨⟨⟨_, rfl, BLe.row rfl⟩, rfl⟩, ?_⟩|fail))
   ·(repeat' (first |refine Fl.sLen rfl rfl rfl rfl rfl ?_ |refine Fl.sIdx rfl rfl rfl rfl rfl rfl (by assumption) (by omega) ?_ |refine qv ?_ |apply qn |apply qs |apply qr |refine qw ?_ |refine AWP.condT rfl ?_ |(refine AWP.condD rfl ?_ ?_ <;> intro _ <;> try (exfalso; omega)) |apply qb |apply qk |apply qx |(refine Fl.splitD rfl rfl ?_ ?_ <;> intro _ <;> try (exfalso; omega))));refine LoopEnd.of (6, 2, false, 1, []) (.inr (.inl ⟨by omega, by omega, rfl, rfl, rfl, rfl⟩)) (by simp) ?_;refine Ent.of [] ?_ ?_ rfl rfl;(repeat' (first |exact True.intro |refine ⟨⟨AV.Le.refl _, rfl⟩, ?_⟩ |refine ⟨⟨⟨_, rfl, BLe.cells (LeL.refl _)⟩, rfl⟩, ?_⟩ |refine ⟨⟨⟨_, rfl, BLe.row rfl⟩, rfl⟩, ?_⟩|fail))
   ·(repeat' (first |refine Fl.sLen rfl rfl rfl rfl rfl ?_ |refine Fl.sIdx rfl rfl rfl rfl rfl rfl (by assumption) (by omega) ?_ |refine qv ?_ |apply qn |apply qs |apply qr |refine AWP.condF rfl ?_ |(refine AWP.condD rfl ?_ ?_ <;> intro _ <;> try (exfalso; omega)) |apply qb |apply qk |(refine Fl.splitD rfl rfl ?_ ?_ <;> intro _ <;> try (exfalso; omega))));refine Fl.sSub rfl rfl rfl rfl rfl rfl rfl s2 (by decide) (by decide) (by omega) ?_;skip;refine Fl.call rfl i1 rfl rfl rfl (LeL.refl _) ?_;skip;refine ql eIz [⟨0, 0, 1, 0⟩] ?_;skip;refine qa (hby := (by simp)) (hm := (by simp)) (r := ?_);(repeat' (first |refine qv ?_ |apply qn |refine Fl.nil (fun _ => by kernel_rfl) ?_ |apply qr |refine qw ?_ |refine qe ?_|fail));refine LoopEnd.of (7, 7, false, 1, [⟨0, 0, 1, 0⟩]) (.inr (.inr (.inl ⟨by omega, by omega, rfl, rfl, rfl, rfl⟩))) (by simp) ?_;refine Ent.of [(806, 47)] ?_ ?_ rfl rfl;(repeat' (first |exact True.intro |refine ⟨⟨AV.Le.refl _, rfl⟩, ?_⟩ |refine ⟨⟨⟨_, rfl, BLe.cells (LeL.refl _)⟩, rfl⟩, ?_⟩ |refine ⟨⟨⟨_, rfl, BLe.row rfl⟩, rfl⟩, ?_⟩|fail))
  ·rcases (show i = 7 ∨ i = 8 by omega) with rfl | rfl
   ·(repeat' (first |refine Fl.sLen rfl rfl rfl rfl rfl ?_ |refine Fl.sIdx rfl rfl rfl rfl rfl rfl (by assumption) (by omega) ?_ |refine qv ?_ |apply qn |apply qs |apply qr |refine qw ?_ |refine AWP.condT rfl ?_ |(refine AWP.condD rfl ?_ ?_ <;> intro _ <;> try (exfalso; omega)) |apply qb |apply qk |apply qx |(refine Fl.splitD rfl rfl ?_ ?_ <;> intro _ <;> try (exfalso; omega))));refine LoopEnd.of (8, 7, false, 1, [⟨0, 0, 1, 0⟩]) (.inr (.inr (.inl ⟨by omega, by omega, rfl, rfl, rfl, rfl⟩))) (by simp) ?_;refine Ent.of [] ?_ ?_ rfl rfl;(repeat' (first |exact True.intro |refine ⟨⟨AV.Le.refl _, rfl⟩, ?_⟩ |refine ⟨⟨⟨_, rfl, BLe.cells (LeL.refl _)⟩, rfl⟩, ?_⟩ |refine ⟨⟨⟨_, rfl, BLe.row rfl⟩, rfl⟩, ?_⟩|fail))
   ·(repeat' (first |refine Fl.sLen rfl rfl rfl rfl rfl ?_ |refine qv ?_ |apply qn |apply qs |apply qr |refine Fl.skip rfl rfl ?_ |refine AWP.condF rfl ?_ |(refine AWP.condD rfl ?_ ?_ <;> intro _ <;> try (exfalso; omega)) |apply qb |apply qk |(refine Fl.splitD rfl rfl ?_ ?_ <;> intro _ <;> try (exfalso; omega))));refine Fl.sSub rfl rfl rfl rfl rfl rfl rfl s3 (by decide) (by decide) (by omega) ?_;skip;refine Fl.call rfl i2 rfl rfl rfl (LeL.refl _) ?_;skip;refine ql eIz [⟨3, 0, 0, 0⟩] ?_;skip;refine qa (hby := (by simp)) (hm := (by simp)) (r := ?_);(repeat' (first |refine qv ?_ |apply qn |refine Fl.nil (fun _ => by kernel_rfl) ?_ |apply qr |refine qw ?_ |refine qe ?_|fail));refine LoopEnd.of (9, 9, false, 1, [⟨0, 0, 1, 0⟩, ⟨3, 0, 0, 0⟩]) (.inr (.inr (.inr ⟨rfl, rfl, rfl, rfl⟩))) (by simp) ?_;refine Ent.of [(806, 47)] ?_ ?_ rfl rfl;(repeat' (first |exact True.intro |refine ⟨⟨AV.Le.refl _, rfl⟩, ?_⟩ |refine ⟨⟨⟨_, rfl, BLe.cells (LeL.refl _)⟩, rfl⟩, ?_⟩ |refine ⟨⟨⟨_, rfl, BLe.row rfl⟩, rfl⟩, ?_⟩|fail))
  ·(repeat' (first |refine Fl.sLen rfl rfl rfl rfl rfl ?_ |refine qv ?_ |apply qn |apply qs |apply qr |(refine AWP.condD rfl ?_ ?_ <;> intro _ <;> try (exfalso; omega)) |apply qx));refine ⟨?_⟩;refine AWP.ent (Ent.freeze 806 rfl) ?_;(repeat' (first |refine qv ?_ |apply qs |apply qr));refine Fl.call rfl cv rfl rfl rfl (LeL.refl _) ?_;(repeat' (first |refine qv ?_|fail));refine Fl.call rfl ct rfl rfl rfl (LeL.refl _) ?_;(repeat' (first |refine qv ?_ |apply qn |apply qs |apply qr |refine qe ?_ |apply qk |apply qt |(refine AWP.condB rfl ?_ ?_ <;> intro _)))
   ·rename_i hne;rw [beq_self_eq_true] at hne
    cases hne
   ·exact RetOk.of rfl (AV.Le.refl _)
theorem law14One_ok : PureFn Tryz.prog 55 [] (aMz m14) := by
 refine PureFn.of_body Tryz.func55 rfl Tryz.ntmps55 rfl rfl ?_;(repeat' (first |apply qn |apply qs |apply qr |refine qe ?_|fail));refine qc (r13Parse_ok) ?_;(repeat' (first |refine qv ?_ |apply qn |apply qs |apply qr |refine qe ?_ |apply qt));exact RetOk.of rfl (AV.Le.refl _)
end Go.Proofs.YtmmfloplhopioaaGreat
/- ref01: SameAll. -/
namespace Go.AL
theorem take_eq_succ {α : Type} {X Y : List α} {i : Nat} {x y : α} (hx : X[i]? = some x) (hy : Y[i]? = some y) (h : X.take i = Y.take i) (e : x = y) : X.take (i + 1) = Y.take (i + 1) := by
 rw [take_snoc hx, take_snoc hy, h, e]
end Go.AL
namespace Go.Proofs.YtmmfloplhopioaaGreat
open Go.AL
theorem rSameAll_ok (X Y : List Int) (hX : ∀ x ∈ X, (toW x.natAbs).length ≤ 1000000) (hl : X.length ≤ 1000000) : PureFn Tryz.prog 28 [.sl 2 eX X, .sl 2 eX Y] (aB (decide (X = Y))) := by
 refine PureFn.of_body Tryz.func28 rfl Tryz.ntmps28 rfl rfl ?_;(repeat' (first |refine qv ?_ |apply qn |apply qs |apply qr |(refine AWP.condN rfl ?_ ?_ <;> intro _ <;> try (exfalso; omega)) |apply qb |apply qk |apply qt))
 ·rename_i h;refine RetOk.of rfl (AV.Le.bool (Eq.symm (decide_eq_false fun e => h ?_)));rw [e]
 rename_i hlen;refine AWP.loop (G := Nat) (fun i => i ≤ X.length ∧ X.take i = Y.take i) (fun i => St.of [] [(0, .sl 2 eX X), (1, .sl 2 eX Y), (5, aN i)] []) (fun i => X.length - i) 0 ⟨by omega, by simp⟩ ?_ ?_
 ·refine Ent.of [] ?_ ?_ rfl rfl;(repeat' (first |exact True.intro |refine ⟨⟨AV.Le.refl _, rfl⟩, ?_⟩|fail))
 ·intro i ⟨h0, h1⟩;(repeat' (first |refine qv ?_ |apply qn |apply qs |apply qr |(refine AWP.condD rfl ?_ ?_ <;> intro _ <;> try (exfalso; omega)) |apply qb |apply qk |apply qx |apply qt |(refine Fl.el rfl rfl rfl rfl rfl rfl rfl rfl (by omega) (by omega) ?_; intro _ _)|fail))
  ·rename_i hi x hx y hy;rw [Int.toNat_natCast] at hx hy;refine qc (rSame_ok x y (hX x (List.mem_of_getElem? hx))) ?_;(repeat' (first |refine qv ?_ |apply qn |refine Fl.nil (fun _ => by kernel_rfl) ?_ |apply qs |apply qr |refine qw ?_ |(refine AWP.condN rfl ?_ ?_ <;> intro _ <;> try (exfalso; omega)) |apply qk |apply qt))
   ·rename_i hne;refine RetOk.of rfl (AV.Le.bool (Eq.symm (decide_eq_false fun e => hne ?_)));subst e;rw [hx] at hy;injection hy
   ·rename_i heq;refine LoopEnd.of (i + 1) ⟨by omega, take_eq_succ hx hy h1 heq⟩ (by omega) ?_;refine Ent.of [] ?_ ?_ rfl rfl;(repeat' (first |exact True.intro |refine ⟨⟨AV.Le.refl _, rfl⟩, ?_⟩|fail))
  ·rename_i hi;refine RetOk.of rfl (AV.Le.bool (Eq.symm (decide_eq_true ?_)));rw [List.take_of_length_le (by omega), List.take_of_length_le (by omega)] at h1;exact h1
end Go.Proofs.YtmmfloplhopioaaGreat
/- ref01: Under, Small; mask.Witness where there is none. -/
namespace Go.AL
theorem and63 {u : Int} (h0 : 0 ≤ u) : bitN .and u 9223372036854775807 = u % 9223372036854775808 := by
 show ((u.toNat &&& (9223372036854775807 : Int).toNat : Nat) : Int) = _;rw [show (9223372036854775807 : Int).toNat = 2 ^ 63 - 1 from rfl, Nat.and_two_pow_sub_one_eq_mod];omega
end Go.AL
namespace Go.Proofs.YtmmfloplhopioaaGreat
open Go.AL
theorem rSmallN_ok (x : Int) (hx : 0 ≤ x) (hl : x < 9223372036854775808) : PureFn Tryz.prog 31 [aX x] (.tup [aN x, aB true]) := by
 refine PureFn.of_body Tryz.func31 rfl Tryz.ntmps31 rfl rfl ?_
 have ex : ((x.natAbs : Nat) : Int) = x := by omega
 have wx := toW_ok x;have hsx := val_toW hx;have hlen : (toW x).length ≤ 2 := (toW_len_le hx 2).2 (by rw [BB_2]; omega);show AWP _ _ _ _ _ (St.init [.agg [aB (decide (x < 0)), aW (toW x.natAbs)]]);rw [ex]
 generalize hA : toW x = A at *
 refine AWP.seqS ?_;(repeat' (first |refine qv ?_ |apply qn |apply qr |refine qe ?_|fail));refine ⟨AWP.seqS ?_⟩;(repeat' (first |refine qv ?_ |apply qn |apply qr));refine ⟨AWP.seqJ (G := Unit) (fun _ => True) (fun _ => St.of [] [(1, .ptr 1 0), (4, aU x)] [(1, .cells [aB (decide (x < 0)), aW A] 48)]) ?_ ?_⟩
 ·(repeat' (first |refine qv ?_ |apply qn |apply qs |apply qr |apply qb));refine AWP.loop (G := Nat × Int) (fun (i, u) => i ≤ A.length ∧ u = val (A.take i) ∧ 0 ≤ u ∧ u < 18446744073709551616) (fun (i, u) => St.of [] [(1, .ptr 1 0), (4, aU u), (5, aN i)] [(1, .cells [aB (decide (x < 0)), aW A] 48)]) (fun (i, u) => A.length - i) (0, 0) ⟨by omega, by simp [val], by omega, by omega⟩ ?_ ?_
  ·refine Ent.of [] ?_ ?_ rfl rfl;(repeat' (first |exact True.intro |refine ⟨⟨AV.Le.refl _, rfl⟩, ?_⟩ |refine ⟨⟨⟨_, rfl, BLe.cells (LeL.refl _)⟩, rfl⟩, ?_⟩|fail))
  ·intro ⟨i, u⟩ ⟨h0, h1, h2, h3⟩;(repeat' (first |refine qv ?_ |apply qn |apply qs |apply qr |refine qw ?_ |(refine AWP.condD rfl ?_ ?_ <;> intro _ <;> try (exfalso; omega)) |apply qb |apply qk |apply qx |(refine Fl.elW rfl rfl rfl rfl rfl rfl rfl rfl (by omega) (by omega) (by assumption) ?_; intro _ _ _ _) |refine Fl.sumM rfl rfl rfl rfl rfl rfl ?_))
   ·rename_i hi hi2 w hw hw0 hw1;rw [Int.toNat_natCast] at hw;have hst := val_take_succ hw;have hbd := val_bounds (k := i + 1) wx (by have := (List.getElem?_eq_some_iff.1 hw).1; omega);have hb2 : BB (i + 1) ≤ BB 2 := BB_le (by omega);rw [BB_2] at hb2
    have hsh : w * 2 ^ (32 * (i : Int)).toNat % 18446744073709551616 = BB i * w := by
     rcases (show i = 0 ∨ i = 1 by omega) with rfl | rfl
     ·rw [BB_zero]; show w * 1 % _ = _; omega
     ·rw [BB_succ, BB_zero]; show w * 4294967296 % _ = _; omega
    refine LoopEnd.of (i + 1, u + BB i * w) ⟨by omega, by rw [hst, h1], by omega, by omega⟩ (by simp only; omega) ?_;refine Ent.of [] ?_ ?_ rfl rfl;(repeat' (first |exact True.intro |refine ⟨⟨AV.Le.refl _, rfl⟩, ?_⟩ |refine ⟨⟨⟨_, rfl, BLe.cells (LeL.refl _)⟩, rfl⟩, ?_⟩ |refine ⟨⟨AV.Le.int ?_, rfl⟩, ?_⟩|fail));rw [hsh];omega
   ·rename_i hi;refine JoinOk.of () trivial ?_;refine Ent.of [] ?_ ?_ rfl rfl;(repeat' (first |exact True.intro |refine ⟨⟨AV.Le.refl _, rfl⟩, ?_⟩ |refine ⟨⟨⟨_, rfl, BLe.cells (LeL.refl _)⟩, rfl⟩, ?_⟩ |refine ⟨⟨AV.Le.int ?_, rfl⟩, ?_⟩|fail));rw [h1, List.take_of_length_le (by omega), hsx]
 ·intro _ _;(repeat' (first |refine qv ?_ |apply qn |apply qs |apply qr |refine qw ?_ |(refine AWP.condN rfl ?_ ?_ <;> intro _ <;> try (exfalso; omega)) |apply qt |refine Fl.cvS rfl rfl rfl rfl rfl rfl ?_));refine RetOk.of rfl ?_;refine AV.Le.tup (LeL.cons (AV.Le.int ?_) (LeL.cons (AV.Le.bool ?_) LeL.nil))
  ·rw [and63 hx];omega
  ·exact decide_eq_true hl
end Go.Proofs.YtmmfloplhopioaaGreat
/- Binomial coefficients: plain. -/
namespace Go.AL
end Go.AL
/- Digits of binomial coefficients under digits: plain. -/
namespace Go.AL
end Go.AL
/- MaskOnly, MaskFound. -/
namespace Go.AL
theorem toW_small {x : Nat} (h : x < 4294967296) : (toW (x : Int)).length ≤ 1 := (toW_len_le (by omega) 1).2 (by rw [BB_succ, BB_zero]; omega)
end Go.AL
namespace Go.Proofs.YtmmfloplhopioaaGreat
open Go.AL
end Go.Proofs.YtmmfloplhopioaaGreat
/- The law's awake: the history of a known run. -/
namespace Go.AL
theorem RunTo.run {m : MZ} {x : List Int} {n k : Nat} (h : RunTo m x n k) (hm : OkMZ m) (ho : m.mach.op (m.mach.F (inF x) k).1 = 3) : m.mach.Run (inF x) k (fun t => (m.mach.F (inF x) t).1) (fun t => (m.mach.F (inF x) t).2) := Mach.F_run hm.mach h.go ho
theorem hist_hol {m : MZ} {x : List Int} {n k : Nat} (h : RunTo m x n k) (hm : OkMZ m) (hx : OkIn m x) (ho : m.mach.op (m.mach.F (inF x) k).1 = 3) : ∀ l ∈ (hsS m x).links, HoL (hL m x k) l := hs_there hm hx (h.run hm ho)
theorem hs_ok {m : MZ} {x : List Int} (hm : OkMZ m) (hx : OkIn m x) : OkS (hsS m x) := by
 refine ⟨by show (0 : Int) ≤ (m.V : Int); omega, by have := hm.V32; show (m.V : Int) ≤ 20000; omega, ?_, fun l hl => ?_⟩
 ·have g := go_len (m := m) m.l;have h15 := hm.l15;have h4 := hm.r4;have hR := MZ.R_eq hm;rw [List.length_flatMap] at g;simp only [hsS, hsK, hsA, hsC, List.length_map, List.length_append, List.length_range, List.length_cons, List.length_nil, List.length_flatMap] at g ⊢;omega
 ·obtain ⟨k, hk, rfl⟩ := List.mem_map.1 hl;exact ((hsK_sm hm hx k hk).ok (by have := hm.V32; omega)).1
end Go.AL
namespace Go.Proofs.YtmmfloplhopioaaGreat
open Go.AL
theorem m14_ok : OkMZ m14 := ⟨by decide, by decide, by decide, by decide, fun i hi => by
  have hi : i < 2 := hi;rcases (show i = 0 ∨ i = 1 by omega) with rfl | rfl
  ·exact .inr ⟨by decide, by decide, .inr ⟨.inl rfl, rfl⟩⟩
  ·exact .inl rfl⟩
theorem m14_in : OkIn m14 [0] := ⟨rfl, by decide⟩
theorem m14_run : RunTo m14 [0] 9 1 := ⟨by decide, fun t ht => by
 have : t = 0 := by omega
 subst this
 decide, .inr (by decide)⟩
theorem m14_hL : hL m14 [0] 1 = [1, 8, 17, 1, 16, 16, 1] := by decide
theorem m14_fit : ∀ y ∈ hL m14 [0] 1, Fit y := fun y hy => by
 rw [m14_hL] at hy;refine fit_pow (e := 5) ?_ (by omega);simp only [List.mem_cons, List.not_mem_nil, or_false] at hy;rcases hy with rfl | rfl | rfl | rfl | rfl | rfl | rfl <;> decide
theorem m14_holds : PureFn Tryz.prog 30 [aS (hsS m14 [0]), .sl 2 eX [1, 8, 17, 1, 16, 16, 1]] (.tup [aB true, aN 0]) := by
 have h := Holds_yes (hsS m14 [0]) (hL m14 [0] 1) (hsS_w m14_ok m14_in) (hs_ok m14_ok m14_in) m14_fit (by rw [m14_hL]; rfl) (histL_nn _ _ _) (hist_ev m14_ok m14_in (by omega) (fun t j ht => by
  have := (m14.mach).F_le (x := inF [0]) j t;have := inF_le m14_in j
  omega) (by decide)) (hist_hol m14_run m14_ok m14_in (by decide))
 rw [m14_hL] at h;exact h
theorem m14_encode : PureFn Tryz.prog 13 [aMz m14, aI [0], aN 9] (.tup [.sl 2 eX [1, 8, 17, 1, 16, 16, 1], aN 0]) := by
 have hE := encode_ok m14 m14_ok [0] m14_in 1 (by decide) (by decide) m14_run.go true ⟨fun _ => m14_fit, fun _ => rfl⟩;have h := hEncode_ev m14 m14_ok [0] m14_in 9 1 (by decide) m14_run (by decide) hE true 0 (by rw [m14_hL]; exact m14_holds);rw [m14_hL] at h;exact h
theorem awake14_ok : PureFn Tryz.prog 22 [] (aB true) := by
 refine PureFn.of_body Tryz.func22 rfl Tryz.ntmps22 rfl rfl ?_;have c1 := m14_encode;have c2 := hSystem_ok m14 [0] m14_ok m14_in;have c3 := m14_holds;have s1 := rSame_ok 17 17 (by have := toW_small (x := 17) (by decide); simpa using Nat.le_trans this (by decide));have s2 := rSame_ok 16 16 (by have := toW_small (x := 16) (by decide); simpa using Nat.le_trans this (by decide));have s3 := rSame_ok 1 1 (by have := toW_small (x := 1) (by decide); simpa using Nat.le_trans this (by decide));obtain ⟨L, hL⟩ : ∃ L : List Int, L = [1, 8, 17, 1, 16, 16, 1] := ⟨_, rfl⟩
 have hl : L.length = 7 := by rw [hL]; rfl
 have g2 : L[Int.toNat 2]? = some 17 := by rw [hL]; rfl
 have g5 : L[Int.toNat 5]? = some 16 := by rw [hL]; rfl
 have g6 : L[Int.toNat 6]? = some 1 := by rw [hL]; rfl
 rw [← hL] at c1 c3
 generalize hsS m14 [0] = S at *
 clear hL;refine AWP.seqS ?_;(repeat' (first |refine qv ?_ |apply qn |apply qr));refine ⟨AWP.seqS ?_⟩;(repeat' (first |apply qr));refine qc (law14One_ok) ?_;skip;refine ql eI [0] ?_;skip;refine qc (c1) ?_;(repeat' (first |refine qv ?_ |apply qn));refine ⟨AWP.seqS ?_⟩;(repeat' (first |apply qr));refine qc (law14One_ok) ?_;skip;refine ql eI [0] ?_;skip;refine qc (c2) ?_;(repeat' (first |refine qv ?_ |apply qn |refine qe ?_|fail));refine ⟨AWP.seqS ?_⟩;(repeat' (first |refine qv ?_ |apply qr));refine qc (c3) ?_;(repeat' (first |refine qv ?_ |apply qn));refine ⟨?_⟩;(repeat' (first |refine qv ?_ |apply qs |apply qr |refine qK ?_ |(refine Fl.splitD rfl rfl ?_ ?_ <;> intro _ <;> try (exfalso; omega))));refine qc (rOf_ok 17 (by omega) (by omega)) ?_;skip;refine qc (s1) ?_;(repeat' (first |refine qv ?_ |refine qK ?_ |(refine Fl.splitD rfl rfl ?_ ?_ <;> intro _ <;> try (exfalso; omega))));refine qc (rOf_ok 16 (by omega) (by omega)) ?_;skip;refine qc (s2) ?_;(repeat' (first |refine qv ?_ |refine qK ?_ |(refine Fl.splitD rfl rfl ?_ ?_ <;> intro _ <;> try (exfalso; omega))));refine qc (rOf_ok 1 (by omega) (by omega)) ?_;skip;refine qc (s3) ?_;(repeat' (first |refine qv ?_ |refine Fl.nil (fun _ => by kernel_rfl) ?_ |apply qt));exact RetOk.of rfl (AV.Le.refl _)
end Go.Proofs.YtmmfloplhopioaaGreat
/- HistoryOnly. -/
namespace Go.AL
theorem histL_congr {m : MZ} {x : List Int} {s : Nat} {pl pl' : Nat → Nat} {r r' : Nat → Nat → Nat} (h : ∀ t, t ≤ s → pl t = pl' t ∧ ∀ j, j < m.R → r t j = r' t j) : histL m x s pl r = histL m x s pl' r' := by
 have hl1 := histL_len (m := m) (x := x) s pl r;have hl2 := histL_len (m := m) (x := x) s pl' r';obtain ⟨a0, a1, a2, a3, a4, a5⟩ := histL_get (m := m) (x := x) s pl r;obtain ⟨b0, b1, b2, b3, b4, b5⟩ := histL_get (m := m) (x := x) s pl' r';refine ext_getD (by omega) fun k hk => ?_;rw [hl1] at hk;have hVe : m.V = 3 + m.l + 2 * m.R := rfl;rcases (show k = 0 ∨ k = 1 ∨ k = 2 ∨ (3 ≤ k ∧ k < 3 + m.l) ∨ (3 + m.l ≤ k ∧ k < 3 + m.l + m.R) ∨ 3 + m.l + m.R ≤ k by omega) with rfl | rfl | rfl | ⟨h1, h2⟩ | ⟨h1, h2⟩ | h1
 ·rw [a0, b0]
 ·rw [a1, b1]
 ·rw [a2, b2]
 ·obtain ⟨i, rfl⟩ : ∃ i, k = 3 + i := ⟨k - 3, by omega⟩;rw [a3 i (by omega), b3 i (by omega), ds_ext (d := plD pl i) (e := plD pl' i) fun t ht => by unfold plD; rw [(h t (by omega)).1]]
 ·obtain ⟨j, rfl⟩ : ∃ j, k = 3 + m.l + j := ⟨k - (3 + m.l), by omega⟩;rw [a4 j (by omega), b4 j (by omega), ds_ext (d := fun t => r t j) (e := fun t => r' t j) fun t ht => (h t (by omega)).2 j (by omega)]
 ·obtain ⟨j, rfl⟩ : ∃ j, k = 3 + m.l + m.R + j := ⟨k - (3 + m.l + m.R), by omega⟩;rw [a5 j (by omega), b5 j (by omega), (h s (Nat.le_refl _)).2 j (by omega)]
theorem fit_pow_lt {k : Nat} (h : Fit ((2 ^ k : Nat) : Int)) : k < 131072 := by
 rcases Nat.lt_or_ge k 131072 with h1 | h1
 ·exact h1
 ·exact absurd h (not_fit_pow (e := k) (by rw [Int.natAbs_natCast]; exact Nat.le_refl _) h1)
structure Sol (m : MZ) (x X : List Int) (s : Nat) : Prop where
  eq : X = hL m x s
  run : RunTo m x s s
  halt : m.mach.op (m.mach.F (inF x) s).1 = 3
  b1 : (s + (addZ m x).toNat + 1) * s + 1 ≤ 131072
  b2 : s + (addZ m x).toNat + 1 ≤ 131072
theorem sol_of {m : MZ} {x X : List Int} (hm : OkMZ m) (hx : OkIn m x) (hX : X.length = m.V) (hf : ∀ y ∈ X, Fit y) (h0 : ∀ y ∈ X, 0 ≤ y) (h : ∀ l ∈ (hsS m x).links, HoL X l) : ∃ s, Sol m x X s := by
 obtain ⟨pl, r, hr, hX2⟩ := hs_only hm hx hX h0 h;obtain ⟨e1, e2, e3⟩ := Mach.run_F hm.mach hr
 generalize nX X 0 = s at *
 have eq : X = hL m x s := hX2.trans (histL_congr fun t ht => ⟨(e1 t ht).1, (e1 t ht).2⟩);have hVe : m.V = 3 + m.l + 2 * m.R := rfl
 have hg : ∀ k, k < m.V → Fit (X.getD k 0) := fun k hk => by
  rw [List.getD_eq_getElem?_getD, List.getElem?_eq_getElem (by omega)];exact hf _ (List.getElem_mem _)
 obtain ⟨g0, g1, g2, g3, g4, g5⟩ := histL_get (m := m) (x := x) s (fun t => (m.mach.F (inF x) t).1) (fun t => (m.mach.F (inF x) t).2);have f1 := hg 1 (by omega);have f2 := hg 2 (by omega);rw [eq, show hL m x s = histL m x s (fun t => (m.mach.F (inF x) t).1) (fun t => (m.mach.F (inF x) t).2) from rfl, g1] at f1;rw [eq, show hL m x s = histL m x s (fun t => (m.mach.F (inF x) t).1) (fun t => (m.mach.F (inF x) t).2) from rfl, g2] at f2;have k1 := fit_pow_lt f1
 have k2 : (s + (addZ m x).toNat + 1) * s < 131072 := by
  refine fit_pow_lt (f2.le ?_);rw [Int.natAbs_natCast, Int.natAbs_natCast, ds_top, show 2 * 2 ^ (s + (addZ m x).toNat) = 2 ^ (s + (addZ m x).toNat + 1) by rw [Nat.pow_succ]; omega, ← Nat.pow_mul];omega
 exact ⟨s, eq, ⟨Nat.le_refl _, e2, .inl rfl⟩, e3, by omega, by omega⟩
end Go.AL
namespace Go.Proofs.YtmmfloplhopioaaGreat
open Go.AL
theorem hs_gen (m : MZ) (hm : OkMZ m) (x : List Int) (hx : OkIn m x) (zs : List Z) (hz : ∀ z ∈ zs, WOk z.w) (hl : zs.length ≤ 9223372036854775807) : ∃ (b : Bool) (e : Int), PureFn Tryz.prog 30 [aS (hsS m x), .sl 2 eZ zs] (.tup [aB b, aN e]) ∧ (b = true → ∃ (X : List Int) (s : Nat), zs = X.map zOf ∧ (∀ y ∈ X, Fit y) ∧ Sol m x X s) := by
 obtain ⟨b, e, h1, h2⟩ := Holds_gen (hsS m x) zs (hsS_w hm hx) (hs_ok hm hx) hz hl;refine ⟨b, e, h1, fun hb => ?_⟩;obtain ⟨X, k1, k2, k3, k4, k5⟩ := h2 hb;obtain ⟨s, hs⟩ := sol_of hm hx (by have : (X.length : Int) = (m.V : Int) := k3; omega) k2 k4 k5;exact ⟨X, s, k1, k2, hs⟩
theorem HistoryOnlyA_ok (m : MZ) (x : List Int) (zs : List Z) (hml : m.code.length ≤ 9223372036854775807) (hxl : x.length ≤ 9223372036854775807) (h : 100 < m.code.length ∨ 100 < x.length ∨ ¬ (OkMZ m ∧ OkIn m x)) : PureFn Tryz.prog 6 [aMz m, aI x, .sl 2 eZ zs] (aB true) := by
 refine PureFn.of_body Tryz.func6 rfl Tryz.ntmps6 rfl rfl ?_;have ca := awake14_ok;by_cases hw : 100 < m.code.length ∨ 100 < x.length
 ·have c1 := law14Wide_ok m x true ⟨fun _ => hw, fun _ => rfl⟩ hml hxl;(repeat' (first |refine qv ?_ |apply qn |apply qs |apply qr |refine qe ?_|fail));refine qc (c1) ?_;(repeat' (first |refine qv ?_ |apply qn |apply qs |apply qr |refine Fl.skip rfl rfl ?_ |refine AWP.condT rfl ?_));refine qc (ca) ?_;(repeat' (first |refine qv ?_ |apply qn |apply qt));exact RetOk.of rfl (AV.Le.refl _)
 ·have c1 := law14Wide_ok m x false (Iff.intro (fun k => by cases k) fun k => absurd k hw) hml hxl
  have hno : ¬ (OkMZ m ∧ OkIn m x) := by
   rcases h with h | h | h
   ·exact absurd (.inl h) hw
   ·exact absurd (.inr h) hw
   ·exact h
  obtain ⟨e, he0, he⟩ : ∃ e : Int, e ≠ 0 ∧ PureFn Tryz.prog 23 [aMz m, aI x] (aN e) := by
   by_cases k : OkMZ m
   ·exact ⟨2, by decide, law14Code_ok m x (by omega) (by omega) 2 (fun q => absurd k q) (fun _ _ => rfl) (fun q1 q2 => absurd ⟨q1, q2⟩ hno)⟩
   ·exact ⟨1, by decide, law14Code_ok m x (by omega) (by omega) 1 (fun _ => rfl) (fun q => absurd q k) (fun q => absurd q k)⟩
  (repeat' (first |refine qv ?_ |apply qn |apply qs |apply qr |refine qe ?_|fail));refine qc (c1) ?_;(repeat' (first |refine qv ?_|fail));refine qc (he) ?_;(repeat' (first |refine qv ?_ |apply qn |apply qs |apply qr |(refine AWP.condN rfl ?_ ?_ <;> intro _ <;> try (exfalso; omega))));refine qc (ca) ?_;(repeat' (first |refine qv ?_ |apply qn |apply qt));exact RetOk.of rfl (AV.Le.refl _)
theorem HistoryOnlyB_ok (m : MZ) (x : List Int) (hm : OkMZ m) (hx : OkIn m x) (zs : List Z) (b : Bool) (e : Int) (hH : PureFn Tryz.prog 30 [aS (hsS m x), .sl 2 eZ zs] (.tup [aB b, aN e])) (hb : ¬ (b = true ∧ e = 0)) : PureFn Tryz.prog 6 [aMz m, aI x, .sl 2 eZ zs] (aB true) := by
 refine PureFn.of_body Tryz.func6 rfl Tryz.ntmps6 rfl rfl ?_;have ca := awake14_ok;have h15 : m.code.length ≤ 15 := hm.l15;have hr4 := hm.r4;have hR := MZ.R_eq hm;have hxe := hx.1;have c1 := law14Wide_ok m x false (Iff.intro (fun k => by cases k) fun k => by omega) (by omega) (by omega);have c2 := law14Code_ok m x (by omega) (by omega) 0 (fun k => absurd hm k) (fun _ k => absurd hx k) (fun _ _ => rfl);have c3 := hSystem_ok m x hm hx
 generalize hsS m x = S at *
 by_cases he : e = 0
 ·cases b with
  | true => exact absurd ⟨rfl, he⟩ hb
  | false =>
   subst he;(repeat' (first |refine qv ?_ |apply qn |apply qs |apply qr |refine qe ?_|fail));refine qc (c1) ?_;(repeat' (first |refine qv ?_|fail));refine qc (c2) ?_;(repeat' (first |refine qv ?_ |apply qn |apply qs |apply qr |refine AWP.condF rfl ?_ |apply qk));refine qc (c3) ?_;(repeat' (first |refine qv ?_ |apply qn |apply qs |apply qr |refine qe ?_|fail));refine qc (hH) ?_;(repeat' (first |refine qv ?_ |apply qn |apply qs |apply qr |refine AWP.condT rfl ?_ |(refine Fl.splitD rfl rfl ?_ ?_ <;> intro _ <;> try (exfalso; omega))));refine qc (ca) ?_;(repeat' (first |refine qv ?_ |apply qn |apply qt));exact RetOk.of rfl (AV.Le.refl _)
 ·(repeat' (first |refine qv ?_ |apply qn |apply qs |apply qr |refine qe ?_|fail));refine qc (c1) ?_;(repeat' (first |refine qv ?_|fail));refine qc (c2) ?_;(repeat' (first |refine qv ?_ |apply qn |apply qs |apply qr |refine AWP.condF rfl ?_ |apply qk));refine qc (c3) ?_;(repeat' (first |refine qv ?_ |apply qn |apply qs |apply qr |refine qe ?_|fail));refine qc (hH) ?_;(repeat' (first |refine qv ?_ |apply qn |apply qs |apply qr |refine Fl.skip rfl rfl ?_ |refine AWP.condT rfl ?_ |(refine Fl.splitD rfl rfl ?_ ?_ <;> intro _ <;> try (exfalso; omega)) |(refine Fl.splitN rfl rfl ?_ ?_ <;> intro _ <;> try (exfalso; omega))));refine qc (ca) ?_;(repeat' (first |refine qv ?_ |apply qn |apply qt));exact RetOk.of rfl (AV.Le.refl _)
theorem HistoryOnlyC_ok (m : MZ) (x : List Int) (hm : OkMZ m) (hx : OkIn m x) (X : List Int) (hf : ∀ y ∈ X, Fit y) (s : Nat) (hs : Sol m x X s) (hH : PureFn Tryz.prog 30 [aS (hsS m x), .sl 2 eX X] (.tup [aB true, aN 0])) : PureFn Tryz.prog 6 [aMz m, aI x, .sl 2 eX X] (aB true) := by
 refine PureFn.of_body Tryz.func6 rfl Tryz.ntmps6 rfl rfl ?_;have ca := awake14_ok;have h15 : m.code.length ≤ 15 := hm.l15;have hr4 := hm.r4;have hR := MZ.R_eq hm;have hxe := hx.1;have hb2 := hs.b2;have c1 := law14Wide_ok m x false (Iff.intro (fun k => by cases k) fun k => by omega) (by omega) (by omega);have c2 := law14Code_ok m x (by omega) (by omega) 0 (fun k => absurd hm k) (fun _ k => absurd hx k) (fun _ _ => rfl);have c3 := hSystem_ok m x hm hx;have c4 := rSmallN_ok (s : Int) (by omega) (by omega);have c5 := rgHalts_ok m hm x hx s s (by omega) hs.run.le hs.run.go hs.run.stop;rw [if_pos hs.halt] at c5;have hE := encode_ok m hm x hx s hs.b1 hs.b2 hs.run.go true ⟨fun _ => by rw [← hs.eq]; exact hf, fun _ => rfl⟩;have c6 := hEncode_ev m hm x hx s s (by omega) hs.run hs.halt hE true 0 (by rw [← hs.eq]; exact hH);rw [if_pos rfl, ← hs.eq] at c6
 have hXl : X.length = m.V := by rw [hs.eq]; exact histL_len _ _ _
 have hV := hm.V32;have hV6 := hm.V6;have c7 := rSameAll_ok X X (fun y hy => by have := (hf y hy).len; omega) (by omega);rw [decide_eq_true rfl] at c7
 have g0 : X[Int.toNat 0]? = some (s : Int) := by
  have h0 := (histL_get (m := m) (x := x) s (fun t => (m.mach.F (inF x) t).1) (fun t => (m.mach.F (inF x) t).2)).1;rw [show histL m x s (fun t => (m.mach.F (inF x) t).1) (fun t => (m.mach.F (inF x) t).2) = X from hs.eq.symm, List.getD_eq_getElem?_getD, List.getElem?_eq_getElem (by omega)] at h0;show X[0]? = _;rw [List.getElem?_eq_getElem (by omega)];exact congrArg some h0
 clear hs hE
 generalize hsS m x = S at *
 refine AWP.seqS ?_;(repeat' (first |refine qv ?_ |apply qn |apply qr |refine qe ?_|fail));refine ⟨AWP.seqS ?_⟩;(repeat' (first |refine qv ?_ |apply qs |apply qr));refine qc (c1) ?_;(repeat' (first |refine qv ?_|fail));refine qc (c2) ?_;(repeat' (first |refine qv ?_ |apply qn |refine AWP.condF rfl ?_ |apply qk));refine ⟨AWP.seqS ?_⟩;(repeat' (first |refine qv ?_ |apply qr));refine qc (c3) ?_;(repeat' (first |refine qv ?_ |apply qn |refine qe ?_|fail));refine ⟨AWP.seqS ?_⟩;(repeat' (first |refine qv ?_ |apply qr));refine qc (hH) ?_;(repeat' (first |refine qv ?_ |apply qn));refine ⟨AWP.seqS ?_⟩;(repeat' (first |refine qv ?_ |apply qn |apply qs |apply qr |refine AWP.condF rfl ?_ |apply qk));refine ⟨AWP.seqS ?_⟩;(repeat' (first |refine qv ?_ |apply qn |apply qs |apply qr |(refine AWP.condD rfl ?_ ?_ <;> intro _ <;> try (exfalso; omega)) |apply qk));refine ⟨AWP.seqS ?_⟩;(repeat' (first |refine qv ?_ |apply qr |refine qK ?_|fail));refine qc (c4) ?_;(repeat' (first |refine qv ?_ |apply qn));refine ⟨AWP.seqS ?_⟩;(repeat' (first |refine qv ?_ |apply qr));refine qc (c5) ?_;(repeat' (first |refine qv ?_ |apply qn));refine ⟨AWP.seqS ?_⟩;(repeat' (first |refine qv ?_ |apply qr));refine qc (c6) ?_;(repeat' (first |refine qv ?_ |apply qn));refine ⟨?_⟩;(repeat' (first |refine qv ?_ |apply qs |apply qr |(refine Fl.splitD rfl rfl ?_ ?_ <;> intro _ <;> try (exfalso; omega))));refine qc (c7) ?_;(repeat' (first |refine qv ?_|fail));refine qc (ca) ?_;(repeat' (first |refine qv ?_ |apply qn |apply qt));exact RetOk.of rfl (AV.Le.refl _)
theorem HistoryOnly_ok (m : MZ) (x : List Int) (zs : List Z) (hml : m.code.length ≤ 9223372036854775807) (hxl : x.length ≤ 9223372036854775807) (hz : ∀ z ∈ zs, WOk z.w) (hzl : zs.length ≤ 9223372036854775807) : PureFn Tryz.prog 6 [aMz m, aI x, .sl 2 eZ zs] (aB true) := by
 by_cases h : 100 < m.code.length ∨ 100 < x.length ∨ ¬ (OkMZ m ∧ OkIn m x)
 ·exact HistoryOnlyA_ok m x zs hml hxl h
 ·have hmx : OkMZ m ∧ OkIn m x := Classical.not_not.1 fun k => h (.inr (.inr k));obtain ⟨hm, hx⟩ := hmx;obtain ⟨b, e, hH, hb⟩ := hs_gen m hm x hx zs hz hzl;by_cases hbe : b = true ∧ e = 0
  ·obtain ⟨rfl, rfl⟩ := hbe;obtain ⟨X, s, rfl, hf, hs⟩ := hb rfl;refine (HistoryOnlyC_ok m x hm hx X hf s hs (hH.le (LeL.cons (AV.Le.refl _) (LeL.cons (AV.Le.slUnmap (enc := eZ) (f := zOf)) LeL.nil)) (AV.Le.refl _))).le (LeL.cons (AV.Le.refl _) (LeL.cons (AV.Le.refl _) (LeL.cons AV.Le.slMap LeL.nil))) (AV.Le.refl _)
  ·exact HistoryOnlyB_ok m x hm hx zs b e hH hbe
end Go.Proofs.YtmmfloplhopioaaGreat
/- Arguments that are lists of numbers. -/
namespace Go.Proofs.YtmmfloplhopioaaGreat
open Go.AL Go.ChangeShapes Go.WideShapes Go.ChangeAt Go.RowKit
section
variable {H : Type} {enc : TypeId × Value → H} {w : World} {base : Nat} {spare : Nat → Bool} {held : Bool}
theorem trodXs1 {fuel : Nat} {cs : List Value} {x : DataW H × List MemPlace} (h : DataW.trod enc Tryz.prog w base spare held fuel 33 cs = some x) : ∃ (xs : List Z) (u : Value), cs = [u] ∧ Rep (hpOf w) noB (.sl 2 eZ xs) u ∧ (∀ z ∈ xs, ZB z) ∧ xs.length ≤ maxLen :=
 trodSlice 2 eZ ZB Tryz.underlying33 (by kernel_rfl) (fun fuel us y _ hy => trodZ hy) h
end
end Go.Proofs.YtmmfloplhopioaaGreat
/- Arguments that are machines and lists of ints. -/
namespace Go.AL
theorem list4 {α : Type} {l : List α} (h : l.length = 4) : ∃ a b c d, l = [a, b, c, d] := by
 match l, h with
 | [a, b, c, d], _ => exact ⟨a, b, c, d, rfl⟩
end Go.AL
namespace Go.Proofs.YtmmfloplhopioaaGreat
open Go.AL Go.ChangeShapes Go.WideShapes Go.ChangeAt Go.RowKit
section
variable {H : Type} {enc : TypeId × Value → H} {w : World} {base : Nat} {spare : Nat → Bool} {held : Bool}
theorem trodIsM {fuel : Nat} {cs : List Value} {x : DataW H × List MemPlace} (h : DataW.trod enc Tryz.prog w base spare held fuel 25 cs = some x) : ∃ (xs : List Int) (u : Value), cs = [u] ∧ Rep (hpOf w) noB (aI xs) u ∧ xs.length ≤ maxLen := by
 obtain ⟨xs, u, h1, h2, _, h3⟩ := trodSlice 1 eI (fun n => True) Tryz.underlying25 (by kernel_rfl) (fun fuel us y _ hy => by
  obtain ⟨n, rfl, hn⟩ := trodInt Tryz.underlying3 hy
  exact ⟨n, ⟨_, _, rfl, by simp only [Rep], rfl⟩, trivial⟩) h
 exact ⟨xs, u, h1, h2, h3⟩
theorem trodIn {fuel : Nat} {cs : List Value} {x : DataW H × List MemPlace} (h : DataW.trod enc Tryz.prog w base spare held fuel 77 cs = some x) : ∃ z : IZ, RepL (hpOf w) noB (eIz z) cs ∧ True := by
 obtain ⟨y0, y1, y2, y3, n, _, hl, h0, h1, h2, h3⟩ := Go.Joins.trod_struct4 Tryz.underlying77 h
 have hc : Tryz.prog.cellsOf 77 = 4 := by kernel_rfl
 have hb : Tryz.prog.cellsOf 3 = 1 := by kernel_rfl
 rw [hc] at hl;obtain ⟨c0, c1, c2, c3, rfl⟩ := list4 hl;simp only [hb, List.drop_zero, List.take_succ_cons, List.take_zero, List.drop_succ_cons] at h0 h1 h2 h3;obtain ⟨a, e0, _⟩ := trodInt Tryz.underlying3 h0;obtain ⟨b, e1, _⟩ := trodInt Tryz.underlying3 h1;obtain ⟨c, e2, _⟩ := trodInt Tryz.underlying3 h2;obtain ⟨d, e3, _⟩ := trodInt Tryz.underlying3 h3;injection e0 with e0; injection e1 with e1; injection e2 with e2; injection e3 with e3;subst e0 e1 e2 e3;exact ⟨⟨a, b, c, d⟩, ⟨_, _, rfl, by simp only [Rep], ⟨_, _, rfl, by simp only [Rep], ⟨_, _, rfl, by simp only [Rep], ⟨_, _, rfl, by simp only [Rep], rfl⟩⟩⟩⟩, trivial⟩
theorem trodMz {fuel : Nat} {cs : List Value} {x : DataW H × List MemPlace} (h : DataW.trod enc Tryz.prog w base spare held fuel 24 cs = some x) : ∃ m : MZ, RepL (hpOf w) noB (eMz m) cs ∧ m.code.length ≤ maxLen := by
 obtain ⟨y0, y1, n, _, hl, h0, h1⟩ := trod_struct2 Tryz.underlying24 h
 have hc : Tryz.prog.cellsOf 24 = 2 := by kernel_rfl
 have hb : Tryz.prog.cellsOf 3 = 1 := by kernel_rfl
 have hs : Tryz.prog.cellsOf 22 = 1 := by kernel_rfl
 rw [hc] at hl;obtain ⟨c0, c1, rfl⟩ := list2 hl;simp only [hb, hs, List.drop_zero, List.take_succ_cons, List.take_zero, List.drop_succ_cons] at h0 h1;obtain ⟨a, e0, _⟩ := trodInt Tryz.underlying3 h0;obtain ⟨xs, u, e1, hr, _, hm⟩ := trodSlice 4 eIz (fun _ => True) Tryz.underlying22 (by kernel_rfl) (fun fuel us y _ hy => trodIn hy) h1;injection e0 with e0; injection e1 with e1; subst e0 e1;exact ⟨⟨a, xs⟩, ⟨_, _, rfl, by simp only [Rep], ⟨_, _, rfl, hr, rfl⟩⟩, hm⟩
end
end Go.Proofs.YtmmfloplhopioaaGreat
