/- Part 3 of a proof layer and of the contracts of the functions. -/
import Derived.WideLaws
import Derived.ProofKit
import Derived.OpenShut
import Derived.Carry
import Derived.ChangeSame
import Derived.ReadAgain
import Derived.Test.YtmmfloplhopioaaGreatRows
import Derived.Test.YtmmfloplhopioaaGreatW2
set_option linter.unusedVariables false
set_option linter.unusedSimpArgs false
namespace Go.Proofs.YtmmfloplhopioaaGreat
open Go.AL
theorem clone_ok (l : List Int) (hl : l.length ≤ 100000) : PureFn Tryz.prog 186 [aW l] (aW l) := by
 refine AC Tryz.func186 rfl Tryz.ntmps186 rfl rfl ?_;refine AE ?_;(repeat' (first |refine qv ?_ |apply qn |apply qr));refine ⟨AWP.seq (AWP.seq (AWP.nilTest rfl rfl rfl rfl rfl rfl rfl rfl rfl rfl ?_))⟩;intro b hb
 cases b with
 | true =>
  (repeat' (first |refine qv ?_ |apply qn |apply qs |apply qr |refine AM rfl ?_ |apply qt));rw [hb rfl];exact RetOk.of rfl (AV.Le.nil 1 eW)
 | false =>
  (repeat' (first |apply qs |apply qr |refine AF rfl ?_ |apply qk));refine DH rfl rfl rfl rfl rfl rfl rfl eW [] rfl rfl rfl rfl (by simp) (AB _) ?_;(repeat' (first |refine qv ?_|fail));refine qa (hby := (by dsimp only [List.length_nil]; omega)) (hm := (by simp; omega)) (r := ?_);(repeat' (first |refine qv ?_ |apply qn |apply qt));refine Ap (Ent.freeze 7 rfl) ?_;exact RetOk.of rfl (AA _)
theorem minus_ok (x y : Int) (hy : 0 ≤ y) (hyx : y ≤ x) (hxl : (toW x).length ≤ 50000) : PureFn Tryz.prog 240 [aW (toW x), aW (toW y)] (aW (toW (x - y))) := by
  refine AC Tryz.func240 rfl Tryz.ntmps240 rfl rfl ?_;have wx := Ak x;have wy := Ak y;have hsx := Ah (show 0 ≤ x by omega);have hsy := Ah hy
  have hl : (toW y).length ≤ (toW x).length := by rcases Nat.lt_or_ge (toW x).length (toW y).length with h | h; · have := Ce (by omega) hy h; omega
                                                  · exact h
  generalize toW x = A at *
  generalize toW y = B at *
  refine AE ?_;(repeat' (first |refine qv ?_ |apply qn |apply qr));refine ⟨AE ?_⟩;(repeat' (first |refine qv ?_ |apply qn |apply qr |refine Bp rfl rfl rfl rfl rfl rfl rfl rfl rfl rfl eW 0 (by exact AB _) (by rfl) (by first | omega | (dsimp only; omega)) (by first | omega | (dsimp only; omega)) (by first | omega | (dsimp only; omega)) ?_|fail));refine ⟨AE ?_⟩;(repeat' (first |refine qv ?_ |apply qr));refine Fl.copy rfl rfl rfl rfl rfl rfl rfl rfl rfl rfl (fun _ => rfl) (fun _ => rfl) (AA _) ?_;(repeat' (first |apply qn));refine ⟨AE ?_⟩;(repeat' (first |refine qv ?_ |apply qn |apply qr));refine ⟨?_⟩;refine Cb (G := List Int) (fun os => os.length = A.length ∧ WOk os ∧ val os = x - y) (fun os => AU [] [(5, .row 11)] [(11, .row 1 eW os 94)]) ?_ ?_
  · (repeat' (first |refine qv ?_ |apply qn |apply qs |apply qr |apply qb));refine AWP.loop (G := List Int × Int) (fun (os, c) => os.length ≤ A.length ∧ WOk os ∧ 0 ≤ c ∧ c ≤ 1 ∧ val os = val (A.take os.length) - val (B.take os.length) + BB os.length * c)
      (fun (os, c) => AU [] [(1, aW B), (5, .row 11), (6, aU c), (16, aN A.length), (17, aN os.length)] [(11, .row 1 eW (os ++ A.drop os.length) 94)])
      (fun (os, c) => A.length - os.length) ([], 0) ⟨by simp, WOk.nil, by omega, by omega, by simp [val, BB]⟩ ?_ ?_
    · refine Ent.of [] ?_ ?_ rfl rfl;(repeat' (first |exact True.intro |refine ⟨⟨AA _, rfl⟩, ?_⟩ |refine ⟨⟨⟨_, rfl, BLe.row ?_⟩, rfl⟩, ?_⟩ |refine ⟨⟨AV.Le.int ?_, rfl⟩, ?_⟩|fail))
      · simp
      · simp
    · intro ⟨os, c⟩ ⟨h0, h1, h2, h3, h4⟩;(repeat' (first |refine qv ?_ |apply qn |apply qs |apply qr |refine qw ?_ |(refine AD rfl ?_ ?_ <;> intro _ <;> try (exfalso; omega)) |apply qb |apply qk |apply qx |(refine B5 rfl rfl rfl rfl rfl rfl rfl rfl (by omega) (by omega) (by assumption) ?_; intro _ _ _ _) |refine Aq rfl rfl rfl rfl rfl rfl rfl rfl (by omega) (by first | omega | (simp; omega)) ?_ |(refine Fl.rld rfl rfl rfl rfl rfl rfl rfl (fun _ => rfl) (fun _ => rfl) (by first | omega | (simp; omega)) ?_; intro _ _) |refine A9 rfl rfl rfl rfl rfl rfl rfl rfl rfl rfl rfl (AB _) rfl (by first | omega | (simp; omega)) ?_ |refine Fl.sumM rfl rfl rfl rfl rfl rfl ?_ |refine Fl.cvU rfl rfl rfl rfl rfl rfl ?_))
      · rename_i hi u hu hj v hv hv0 hv1;rw [Int.toNat_natCast] at hu hv;rw [get_drop rfl] at hu;have hub := wx.get hu;have hstep := EV (p := (u - c - v) % 4294967296) (q := -((u - c - v) / 4294967296)) hu (Ag hv) h4 (by omega);refine LoopEnd.of (os ++ [(u - c - v) % 4294967296], -((u - c - v) / 4294967296)) ⟨by simp; omega, h1.append (WOk.cons (by omega) (by omega) WOk.nil), by omega, by omega, by rw [List.length_append]; exact hstep⟩ (by simp only [List.length_append, List.length_cons, List.length_nil]; omega) ?_;refine Ent.of [] ?_ ?_ rfl rfl;(repeat' (first |exact True.intro |refine ⟨⟨AA _, rfl⟩, ?_⟩ |refine ⟨⟨⟨_, rfl, BLe.row ?_⟩, rfl⟩, ?_⟩ |refine ⟨⟨AV.Le.int ?_, rfl⟩, ?_⟩|fail))
        · rw [p63]; omega
        · simp
        · rw [List.length_append]; exact set_drop (by simp) (by omega) (by omega)
      · rename_i hi u hu hj;rw [Int.toNat_natCast] at hu;rw [get_drop rfl] at hu;have hub := wx.get hu;have hstep := EV (p := (u - c - 0) % 4294967296) (q := -((u - c - 0) / 4294967296)) hu (Bf (by omega)) h4 (by omega);refine LoopEnd.of (os ++ [(u - c - 0) % 4294967296], -((u - c - 0) / 4294967296)) ⟨by simp; omega, h1.append (WOk.cons (by omega) (by omega) WOk.nil), by omega, by omega, by rw [List.length_append]; exact hstep⟩ (by simp only [List.length_append, List.length_cons, List.length_nil]; omega) ?_;refine Ent.of [] ?_ ?_ rfl rfl;(repeat' (first |exact True.intro |refine ⟨⟨AA _, rfl⟩, ?_⟩ |refine ⟨⟨⟨_, rfl, BLe.row ?_⟩, rfl⟩, ?_⟩ |refine ⟨⟨AV.Le.int ?_, rfl⟩, ?_⟩|fail))
        · rw [p63]; omega
        · simp
        · rw [List.length_append]; exact set_drop (by simp) (by omega) (by omega)
      · rename_i hi
        have hlen : os.length = A.length := by omega
        have hv : val os = x - y + BB A.length * c := by rw [h4, List.take_of_length_le (by omega), List.take_of_length_le (by omega), hlen, hsx, hsy]
        have hc : c = 0 := by
          have h5 := DJ h1;rw [hlen] at h5
          have : c = 0 ∨ c = 1 := by omega
          rcases this with h | h
          · exact h
          · subst h; omega
        refine JoinOk.of os ⟨hlen, h1, by rw [hv, hc]; omega⟩ ?_;refine Ent.of [] ?_ ?_ rfl rfl;(repeat' (first |exact True.intro |refine ⟨⟨AA _, rfl⟩, ?_⟩ |refine ⟨⟨⟨_, rfl, BLe.row ?_⟩, rfl⟩, ?_⟩|fail));rw [List.drop_of_length_le (by omega), List.append_nil]
  · intro os ⟨h0, h1, h2⟩;(repeat' (first |refine qv ?_ |apply qs |apply qr));refine Fl.callF rfl 11 rfl (trim_ok os h1 (by omega)) rfl rfl rfl (AB _) ?_;(repeat' (first |refine qv ?_ |apply qn |apply qt));refine RetOk.of rfl (AR ?_);rw [h2]
end Go.Proofs.YtmmfloplhopioaaGreat
namespace Go.Proofs.YtmmfloplhopioaaGreat
open Go.AL
theorem times_ok (x y : Int) (hx : 0 ≤ x) (hy : 0 ≤ y) (hxl : (toW x).length ≤ 50000) (hyl : (toW y).length ≤ 50000) : PureFn Tryz.prog 151 [aW (toW x), aW (toW y)] (aW (toW (x * y))) := by
 refine AC Tryz.func151 rfl Tryz.ntmps151 rfl rfl ?_;have wx := Ak x;have wy := Ak y;have hsx := Ah hx;have hsy := Ah hy;have hnil : ∀ z : Int, 0 ≤ z → (toW z).length = 0 → z = 0 := fun z hz h => (A8 hz).1 (List.eq_nil_of_length_eq_zero h);refine AE ?_;(repeat' (first |refine qv ?_ |apply qn |apply qr));refine ⟨AE ?_⟩;(repeat' (first |refine qv ?_ |apply qn |apply qs |apply qr |refine Fl.skip rfl rfl ?_ |refine AM rfl ?_ |(refine AD rfl ?_ ?_ <;> intro _ <;> try (exfalso; omega)) |apply qk |apply qt |(refine AH rfl rfl ?_ ?_ <;> intro _ <;> try (exfalso; omega))))
 ·refine RetOk.of rfl ?_;rw [hnil x hx (by omega), Int.zero_mul, toW_zero];exact AV.Le.nil 1 eW
 ·rename_i h1 h2;refine RetOk.of rfl ?_;rw [hnil y hy (by omega), Int.mul_zero, toW_zero];exact AV.Le.nil 1 eW
 rename_i hx0 hy0
 generalize toW x = A at *
 generalize toW y = B at *
 refine ⟨AE ?_⟩;(repeat' (first |refine qv ?_ |apply qn |apply qr |refine qw ?_ |refine Bp rfl rfl rfl rfl rfl rfl rfl rfl rfl rfl eW 0 (by exact AB _) (by rfl) (by first | omega | (dsimp only; omega)) (by first | omega | (dsimp only; omega)) (by first | omega | (dsimp only; omega)) ?_|fail));refine ⟨?_⟩;refine Cb (G := List Int) (fun os => os.length = A.length + B.length ∧ WOk os ∧ val os = x * y) (fun os => AU [] [(5, .row 24)] [(24, .row 1 eW os 94)]) ?_ ?_
 ·(repeat' (first |refine qv ?_ |apply qn |apply qs |apply qr |apply qb));refine AWP.loop (G := Nat × List Int) (fun (i, os) => i ≤ A.length ∧ os.length = i + B.length ∧ WOk os ∧ val os = val (A.take i) * val B)
   (fun (i, os) => AU [] [(1, aW B), (5, .row 24), (25, aW A), (26, aN A.length), (27, aN i)] [(24, .row 1 eW (os ++ List.replicate (A.length - i) 0) 94)])
   (fun (i, os) => A.length - i) (0, List.replicate B.length 0) ⟨by omega, by simp, WOk.zeros _, by simp [val, val_zeros]⟩ ?_ ?_
  ·refine Ent.of [] ?_ ?_ rfl rfl;(repeat' (first |exact True.intro |refine ⟨⟨AA _, rfl⟩, ?_⟩ |refine ⟨⟨⟨_, rfl, BLe.row ?_⟩, rfl⟩, ?_⟩|fail));rw [List.replicate_append_replicate]; congr 1; omega
  ·intro ⟨i, os⟩ ⟨h0, h1, h2, h3⟩;(repeat' (first |refine qv ?_ |apply qn |apply qs |apply qr |(refine AD rfl ?_ ?_ <;> intro _ <;> try (exfalso; omega)) |apply qb |apply qk |apply qx |(refine B5 rfl rfl rfl rfl rfl rfl rfl rfl (by omega) (by omega) (by assumption) ?_; intro _ _ _ _)|fail))
   ·rename_i hi u hu hu0 hu1;rw [Int.toNat_natCast] at hu;have hA : A.length ≤ 50000 := hxl;have hB : B.length ≤ 50000 := hyl;obtain ⟨D, hD⟩ : ∃ D, D = os ++ List.replicate (A.length - i) 0 := ⟨_, rfl⟩
    have hDl : D.length = A.length + B.length := by rw [hD, List.length_append, List.length_replicate]; omega
    have hDw : WOk D := by rw [hD]; exact h2.append (WOk.zeros _)
    refine AWP.loop (G := Nat × List Int × Int) (fun (k, ps, c) => k ≤ B.length ∧ ps.length = i + k ∧ WOk ps ∧ WOk (ps ++ D.drop ps.length) ∧ 0 ≤ c ∧ c < 4294967296 ∧ val ps + BB ps.length * c = val (D.take ps.length) + BB i * (u * val (B.take k)))
     (fun (k, ps, c) => AU [] [(1, aW B), (5, .row 24), (6, aN i), (7, .v (.int .u32 u)), (8, aU c), (25, aW A), (26, aN A.length), (27, aN i), (32, aW B), (33, aN B.length), (34, aN k)] [(24, .row 1 eW (ps ++ D.drop ps.length) 94)])
     (fun (k, ps, c) => B.length - k) (0, D.take i, 0) ⟨by omega, by rw [List.length_take]; omega, hDw.take i, by rw [List.length_take, Nat.min_eq_left (by omega), List.take_append_drop]; exact hDw, by omega, by omega, by rw [List.length_take, Nat.min_eq_left (by omega)]; simp [val]⟩ ?_ ?_
    ·refine Ent.of [] ?_ ?_ rfl rfl;(repeat' (first |exact True.intro |refine ⟨⟨AA _, rfl⟩, ?_⟩ |refine ⟨⟨⟨_, rfl, BLe.row ?_⟩, rfl⟩, ?_⟩|fail));rw [List.length_take, Nat.min_eq_left (by omega), List.take_append_drop, hD]
    ·intro ⟨k, ps, c⟩ ⟨k0, k1, k2, k3, k4, k5, k6⟩
     have hkl : (ps ++ D.drop ps.length).length = A.length + B.length := by rw [List.length_append, List.length_drop]; omega
     (repeat' (first |refine qv ?_ |apply qn |apply qs |apply qr |refine qw ?_ |(refine Fl.mulW rfl rfl rfl rfl rfl (by omega) (by omega) (by omega) (by omega) ?_; intro _ _) |(refine AD rfl ?_ ?_ <;> intro _ <;> try (exfalso; omega)) |apply qb |apply qk |apply qx |(refine B5 rfl rfl rfl rfl rfl rfl rfl rfl (by omega) (by omega) (by assumption) ?_; intro _ _ _ _) |refine Aq rfl rfl rfl rfl rfl rfl rfl rfl (by omega) (by first | omega | (simp; omega)) ?_ |(refine Fl.rldW rfl rfl rfl rfl rfl rfl rfl (fun _ => rfl) (fun _ => rfl) (by first | omega | (simp; omega)) (by assumption) ?_; intro _ _ _ _) |refine A9 rfl rfl rfl rfl rfl rfl rfl rfl rfl rfl rfl (AB _) rfl (by first | omega | (simp; omega)) ?_|fail))
     ·rename_i hk v hv hv0 hv1 hp0 hp1 w hw hw0 hw1;rw [Int.toNat_natCast] at hv
      have hw2 : D[ps.length]? = some w := by rw [← get_drop (os := ps) (k := (↑i + ↑k : Int).toNat) (by omega)]; exact hw
      have hstep := times_step k1 hw2 hv k6 rfl;refine LoopEnd.of (k + 1, ps ++ [(c + (u * v + w)) % 4294967296], (c + (u * v + w)) / 4294967296) ⟨by omega, by rw [List.length_append, k1]; rfl, k2.append (WOk.cons (by omega) (by omega) WOk.nil), ?_, by omega, by omega, by rw [List.length_append]; exact hstep⟩ (by simp only; omega) ?_
      ·rw [List.length_append];exact (k2.append (WOk.cons (by omega) (by omega) WOk.nil)).append (hDw.drop _)
      ·refine Ent.of [] ?_ ?_ rfl rfl;(repeat' (first |exact True.intro |refine ⟨⟨AA _, rfl⟩, ?_⟩ |refine ⟨⟨⟨_, rfl, BLe.row ?_⟩, rfl⟩, ?_⟩|fail));rw [List.length_append];exact set_drop (by omega) (by omega) rfl
     ·rename_i hk
      have hkk : k = B.length := by omega
      refine LoopEnd.of (i + 1, ps ++ [c]) ⟨by omega, by simp; omega, k2.append (WOk.cons k4 k5 WOk.nil), ?_⟩ (by simp only; omega) ?_
      ·rw [Bq, k6, Ag hu, show ps.length = os.length by omega, hD, List.take_left, h3, hkk, List.take_length];grind
      ·refine Ent.of [] ?_ ?_ rfl rfl;(repeat' (first |exact True.intro |refine ⟨⟨AA _, rfl⟩, ?_⟩ |refine ⟨⟨⟨_, rfl, BLe.row ?_⟩, rfl⟩, ?_⟩|fail));rw [show D.drop ps.length = List.replicate (A.length - i) 0 by rw [hD, show ps.length = os.length by omega, List.drop_left]];exact CP (by omega) (by omega) (by omega)
   ·rename_i hi
    have hii : i = A.length := by omega
    refine JoinOk.of os ⟨by omega, h2, ?_⟩ ?_
    ·rw [h3, hii, List.take_length, hsx, hsy]
    ·refine Ent.of [] ?_ ?_ rfl rfl;(repeat' (first |exact True.intro |refine ⟨⟨AA _, rfl⟩, ?_⟩ |refine ⟨⟨⟨_, rfl, BLe.row ?_⟩, rfl⟩, ?_⟩|fail));rw [hii, Nat.sub_self]; simp
 ·intro os ⟨h0, h1, h2⟩;(repeat' (first |refine qv ?_ |apply qs |apply qr));refine Fl.callF rfl 24 rfl (trim_ok os h1 (by omega)) rfl rfl rfl (AB _) ?_;(repeat' (first |refine qv ?_ |apply qn |apply qt));refine RetOk.of rfl (AR ?_);rw [h2]
end Go.Proofs.YtmmfloplhopioaaGreat
/- Numbers of the program: their signs, their sizes. -/
namespace Go.AL
def clip (x : Int) : Int := if Fit x then x else 0
def szErr (x : Int) : Int := if Fit x then 0 else 4
theorem CD {x : Int} (h : Fit x) : clip x = x := if_pos h
theorem clip_not {x : Int} (h : ¬ Fit x) : clip x = 0 := if_neg h
theorem szErr_fit {x : Int} (h : Fit x) : szErr x = 0 := if_pos h
theorem DC {x : Int} (h : ¬ Fit x) : szErr x = 4 := if_neg h
theorem BB_4096_pos : 0 < BB 4096 := Bc _
theorem Fit.zero : Fit 0 := by unfold Fit; exact BB_4096_pos
theorem Fit.clip (x : Int) : Fit (clip x) := by
 unfold AL.clip;split
 ·assumption
 ·exact Fit.zero
theorem Fit.len {x : Int} (h : Fit x) : (toW x.natAbs).length ≤ 4096 := (BE (by omega) _).2 h.lt
theorem Fit.of_len {x : Int} (h : (toW x.natAbs).length ≤ 4096) : Fit x := .mk ((BE (by omega) _).1 h)
theorem Fit.iff {x : Int} : Fit x ↔ (toW x.natAbs).length ≤ 4096 := ⟨Fit.len, Fit.of_len⟩
abbrev aR (x : Int) : AV := .tup [aX (clip x), aN (szErr x)]
theorem Eg {x : Int} (h : Fit x) : aR x = .tup [aX x, aN 0] := by show AV.tup [aX (clip x), aN (szErr x)] = _; rw [CD h, szErr_fit h]
theorem Dy {x : Int} (h : ¬ Fit x) : aR x = .tup [aX 0, aN 4] := by show AV.tup [aX (clip x), aN (szErr x)] = _; rw [clip_not h, DC h]
theorem aX_of {n : Bool} {w : List Int} {x : Int} (h1 : n = decide (x < 0)) (h2 : w = toW x.natAbs) : AV.agg [aB n, aW w] = aX x := by subst h1 h2; rfl
def sg (neg : Bool) (v : Int) : Int := if neg then -v else v
theorem sg_abs (neg : Bool) {v : Int} (h : 0 ≤ v) : ((sg neg v).natAbs : Int) = v := by unfold sg; split <;> omega
def OkZ (z : Z) : Prop := z.w.length ≤ 4096 ∧ Az z.w = z.w ∧ (z.w = [] → z.neg = false)
instance decOkZ (z : Z) : Decidable (OkZ z) := inferInstanceAs (Decidable (_ ∧ _ ∧ _))
attribute [irreducible] decOkZ
theorem Dm {x : Int} (h : Fit x) : OkZ (zOf x) := by
 refine ⟨h.len, trim_toW _, fun he => ?_⟩;have := (A8 (show (0 : Int) ≤ x.natAbs by omega)).1 he;simp only [zOf, decide_eq_false_iff_not]; omega
theorem okZ_last {z : Z} {e : Int} {k : Nat} (hk : k + 1 = z.w.length) (he : z.w[k]? = some e) (h1 : z.w.length ≤ 4096) : OkZ z ↔ e ≠ 0 := by
 have hw : z.w = z.w.take k ++ [e] := by
  have := Ad he;rwa [hk, List.take_length] at this
 constructor
 ·intro ⟨_, h, _⟩ h0;subst h0;rw [hw, Di] at h;have h2 := C7 (z.w.take k);rw [h] at h2;simp at h2;omega
 ·intro h0;refine ⟨h1, by rw [hw, trimL_snoc h0], fun hn => ?_⟩;rw [hn] at hk; simp at hk
theorem okZ_none {z : Z} (h : z.w.length = 0) : OkZ z ↔ z.neg = false := by
 have hn : z.w = [] := List.eq_nil_of_length_eq_zero h;simp [OkZ, hn, Az]
def zval (z : Z) : Int := sg z.neg (val z.w)
theorem okZ_eq {z : Z} (hw : WOk z.w) (h : OkZ z) : z = zOf (zval z) ∧ Fit (zval z) := by
 obtain ⟨h1, h2, h3⟩ := h;have hv := As hw;have hab : ((zval z).natAbs : Int) = val z.w := sg_abs _ hv
 have hz : z.w = toW (val z.w) := by rw [← CA hw, h2]
 constructor
 ·cases z with
  | mk neg w =>
   simp only [zOf, Z.mk.injEq];rw [hab];refine ⟨?_, hz⟩;simp only at h3 hz hv
   have hne : w = [] ↔ val w = 0 := by
    constructor
    ·rintro rfl; exact val_nil
    ·intro h0; rw [h0, toW_zero] at hz; exact hz
   simp only [zval, sg]
   cases neg with
   | true =>
    have : val w ≠ 0 := fun h0 => by have := h3 (hne.2 h0); cases this
    simp only [if_true];symm; simp; omega
   | false => simp; omega
 ·refine Fit.of_len ?_;rw [hab, ← hz]; exact h1
theorem DA : (AV.agg [aB false, .v (.slice none 0 0)]).Le (aX 0) := AV.Le.agg (LeL.cons (AV.Le.bool rfl) (LeL.cons (by rw [show ((Int.natAbs 0 : Nat) : Int) = 0 from rfl, toW_zero]; exact AV.Le.nil 1 eW) LeL.nil))
theorem BW {α : Type} {p : α → Prop} {l : List α} {i : Nat} {x : α} (hx : l[i]? = some x) (h : ∀ z ∈ l.take i, p z) (h1 : p x) : ∀ z ∈ l.take (i + 1), p z := by
 rw [Ad hx];intro z hz;rcases List.mem_append.1 hz with hz | hz
 ·exact h z hz
 ·rw [List.mem_singleton.1 hz]; exact h1
theorem BB_len_le {z : Int} (h : 0 < z) : BB ((toW z).length - 1) ≤ z := by
 have hne := toW_ne_nil h;have hl : (toW z).length ≠ 0 := fun h0 => hne (List.eq_nil_of_length_eq_zero h0);have := (BE (show 0 ≤ z by omega) ((toW z).length - 1));rcases Int.lt_or_le z (BB ((toW z).length - 1)) with h1 | h1
 ·have := this.2 h1; omega
 ·exact h1
theorem mul_not_fit {x y : Int} (hx : x ≠ 0) (hy : y ≠ 0) (h : (toW x.natAbs).length + (toW y.natAbs).length > 4097) : ¬ Fit (x * y) := by
 unfold Fit;have h1 := BB_len_le (show (0 : Int) < x.natAbs by omega);have h2 := BB_len_le (show (0 : Int) < y.natAbs by omega)
 have hlx : (toW x.natAbs).length ≠ 0 := fun h0 => by
  have := (A8 (show (0 : Int) ≤ x.natAbs by omega)).1 (List.eq_nil_of_length_eq_zero h0); omega
 have hly : (toW y.natAbs).length ≠ 0 := fun h0 => by
  have := (A8 (show (0 : Int) ≤ y.natAbs by omega)).1 (List.eq_nil_of_length_eq_zero h0); omega
 have h3 : BB 4096 ≤ BB ((toW x.natAbs).length - 1 + ((toW y.natAbs).length - 1)) := BB_le (by omega);rw [BB_add] at h3;have h4 := Int.mul_le_mul h1 h2 (Int.le_of_lt (Bc _)) (by omega);rw [Int.natAbs_mul, Int.natCast_mul];omega
theorem mul_len {x y : Int} (hx : Fit x) (hy : Fit y) : (toW (x.natAbs * y.natAbs)).length ≤ 100000 := by
 have h0 : (0 : Int) ≤ x.natAbs * y.natAbs := Int.mul_nonneg (by omega) (by omega);rw [BE h0];have h1 : (x.natAbs : Int) * y.natAbs ≤ BB 4096 * BB 4096 := Int.mul_le_mul (Int.le_of_lt hx.lt) (Int.le_of_lt hy.lt) (by omega) (Int.le_of_lt (Bc _));rw [← BB_add] at h1
 have h2 : BB (4096 + 4096) < BB 8193 := by
  have h3 : BB 8193 = 4294967296 * BB (4096 + 4096) := BC _;have := Bc (4096 + 4096);omega
 have h3 : BB 8193 ≤ BB 100000 := BB_le (by omega);omega
theorem sg_mul (x y : Int) : sg (!(decide (x < 0) == decide (y < 0))) (x.natAbs * y.natAbs) = x * y := by
 have e1 : ∀ z : Int, z < 0 → (z.natAbs : Int) = -z := fun z h => by omega
 have e2 : ∀ z : Int, ¬ z < 0 → (z.natAbs : Int) = z := fun z h => by omega
 by_cases hx : x < 0 <;> by_cases hy : y < 0
 ·rw [e1 x hx, e1 y hy]; simp [sg, hx, hy, Int.neg_mul_neg]
 ·rw [e1 x hx, e2 y hy]; simp [sg, hx, hy, Int.neg_mul]
 ·rw [e2 x hx, e1 y hy]; simp [sg, hx, hy, Int.mul_neg]
 ·rw [e2 x hx, e2 y hy]; simp [sg, hx, hy]
theorem Bb {x : Int} (h0 : -18446744073709551616 < x) (h1 : x < 18446744073709551616) : Fit x := by
 have h2 := BB_2;have h3 : BB 2 ≤ BB 4096 := BB_le (by omega);unfold Fit;omega
theorem Dz {α β : Type} {sz : Nat} {enc : β → List AV} {f : α → β} {xs : List α} : (AV.sl sz (fun x => enc (f x)) xs).Le (.sl sz enc (xs.map f)) := fun h b u k => by
 simp only [Rep, List.length_map] at k ⊢;obtain ⟨A, c, e, h1, h2, h3⟩ := k;refine ⟨A, c, e, h1, h2, fun i x hx => ?_⟩;rw [List.getElem?_map] at hx;obtain ⟨y, hy, rfl⟩ := Option.map_eq_some_iff.1 hx;exact h3 i y hy
attribute [irreducible] clip szErr sg
end Go.AL
namespace Go.Proofs.YtmmfloplhopioaaGreat
open Go.AL
theorem made_ok (neg : Bool) (l : List Int) (hl : WOk l) (hb : l.length ≤ 100000) : PureFn Tryz.prog 153 [aB neg, aW l] (aR (sg neg (val l))) := by
 refine AC Tryz.func153 rfl Tryz.ntmps153 rfl rfl ?_;have hv := As hl
 have hlen : (toW (val l)).length ≤ 100000 := by rw [← CA hl]; exact Nat.le_trans (C7 l) hb
 have hab : ((sg neg (val l)).natAbs : Int) = val l := sg_abs _ hv;(repeat' (first |refine qv ?_ |apply qn |apply qs |apply qr |refine qe ?_|fail));refine qc (trim_ok l hl hb) ?_;(repeat' (first |refine qv ?_ |apply qn |apply qs |apply qr |refine qe ?_ |refine Fl.skip rfl rfl ?_ |(refine AD rfl ?_ ?_ <;> intro _ <;> try (exfalso; omega)) |apply qk |apply qt |(refine Fl.splitB rfl rfl ?_ ?_ <;> (fail_if_success (intro hb_; exact absurd hb_ (by decide))) <;> intro _)|fail))
 ·rename_i h
  have hf : ¬ Fit (sg neg (val l)) := by rw [Fit.iff, hab]; omega
  refine RetOk.of rfl ?_;rw [Dy hf];exact AV.Le.tup (LeL.cons DA (AB _))
 ·refine qc (clone_ok _ hlen) ?_;(repeat' (first |refine qv ?_ |apply qn |refine qe ?_ |apply qt));rename_i h hn
  have hf : Fit (sg neg (val l)) := by rw [Fit.iff, hab]; omega
  refine RetOk.of rfl ?_;rw [Eg hf];refine AV.Le.tup (LeL.cons (AR (aX_of ?_ ?_)) (AB _))
  ·subst hn;simp only [sg, if_true];have := A8 hv;by_cases h0 : val l = 0
   ·rw [h0, toW_zero]; rfl
   ·have h1 : (toW (val l)).length ≠ 0 := fun h => h0 (this.1 (List.eq_nil_of_length_eq_zero h));simp; omega
  ·rw [hab]
 ·refine qc (clone_ok _ hlen) ?_;(repeat' (first |refine qv ?_ |apply qn |refine qe ?_ |apply qt));rename_i h hn
  have hf : Fit (sg neg (val l)) := by rw [Fit.iff, hab]; omega
  refine RetOk.of rfl ?_;rw [Eg hf];refine AV.Le.tup (LeL.cons (AR (aX_of ?_ ?_)) (AB _))
  ·subst hn;simp [sg]; omega
  ·rw [hab]
theorem Valid_ok (z : Z) (hz : WOk z.w) : PureFn Tryz.prog 115 [aZ z] (aB (decide (OkZ z))) := by
 refine AC Tryz.func115 rfl Tryz.ntmps115 rfl rfl ?_;(repeat' (first |refine qv ?_ |apply qn |apply qs |apply qr |refine qw ?_ |refine qe ?_ |refine Fl.skip rfl rfl ?_ |apply qt |(refine B5 rfl rfl rfl rfl rfl rfl rfl rfl (by omega) (by omega) (by assumption) ?_; intro _ _ _ _) |(refine AH rfl rfl ?_ ?_ <;> intro _ <;> try (exfalso; omega)) |(refine DG rfl rfl ?_ ?_ <;> intro _ <;> try (exfalso; omega))))
 ·rename_i h1 h2 e he _ _ h0;refine RetOk.of rfl (AV.Le.bool (Eq.symm ?_));exact decide_eq_true ((okZ_last (by omega) he (by omega)).2 h0)
 ·rename_i h1 h2 e he _ _ h0 h3;refine RetOk.of rfl (AV.Le.bool (Eq.symm ?_));exact decide_eq_false fun h => (okZ_last (by omega) he (by omega)).1 h h0
 ·rename_i h1 h2 h0;refine RetOk.of rfl (AV.Le.bool (Eq.symm ?_));have := okZ_none (z := z) (by omega)
  cases hn : z.neg <;> simp [this, hn]
 ·rename_i h1;refine RetOk.of rfl (AV.Le.bool (Eq.symm ?_));exact decide_eq_false fun h => h1 (by have := h.1; omega)
theorem valid_ok (zs : List Z) (hz : ∀ z ∈ zs, WOk z.w) (hl : zs.length ≤ 1000000000) : PureFn Tryz.prog 154 [.sl 2 eZ zs] (aB (decide (∀ z ∈ zs, OkZ z))) := by
 refine AC Tryz.func154 rfl Tryz.ntmps154 rfl rfl ?_;(repeat' (first |refine qv ?_ |apply qn |apply qs |apply qr |apply qb));refine AWP.loop (G := Nat) (fun i => i ≤ zs.length ∧ ∀ z ∈ zs.take i, OkZ z) (fun i => AU [] [(5, .sl 2 eZ zs), (6, aN zs.length), (7, aN i)] []) (fun i => zs.length - i) 0 ⟨by omega, by simp⟩ ?_ ?_
 ·refine Ent.of [] ?_ ?_ rfl rfl;(repeat' (first |exact True.intro |refine ⟨⟨AA _, rfl⟩, ?_⟩|fail))
 ·intro i ⟨h0, h1⟩;(repeat' (first |refine qv ?_ |apply qn |apply qs |apply qr |refine qe ?_ |(refine AD rfl ?_ ?_ <;> intro _ <;> try (exfalso; omega)) |apply qb |apply qk |apply qx |apply qt |(refine Aw rfl rfl rfl rfl rfl rfl rfl rfl (by omega) (by omega) ?_; intro _ _)|fail))
  ·rename_i hi z hzi;rw [Int.toNat_natCast] at hzi;refine qc (Valid_ok z (hz z (List.mem_of_getElem? hzi))) ?_;(repeat' (first |refine qv ?_ |apply qn |apply qs |apply qr |refine qw ?_ |(refine Aa rfl ?_ ?_ <;> intro _ <;> try (exfalso; omega)) |apply qk |apply qt))
   ·rename_i h2;refine RetOk.of rfl (AV.Le.bool (Eq.symm (decide_eq_false fun h => h2 (h z (List.mem_of_getElem? hzi)))))
   ·rename_i h2;refine LoopEnd.of (i + 1) ⟨by omega, BW hzi h1 h2⟩ (by omega) ?_;refine Ent.of [] ?_ ?_ rfl rfl;(repeat' (first |exact True.intro |refine ⟨⟨AA _, rfl⟩, ?_⟩|fail))
  ·refine RetOk.of rfl (AV.Le.bool (Eq.symm (decide_eq_true ?_)));rwa [show i = zs.length by omega, List.take_length] at h1
theorem D1 (x y : Int) (hx : Fit x) (hy : Fit y) : PureFn Tryz.prog 154 [.sl 2 eZ [zOf x, zOf y]] (aB true) := by
 refine (valid_ok [zOf x, zOf y] ?_ (by simp)).le (AB _) (AV.Le.bool (decide_eq_true ?_))
 ·intro z hz;simp only [List.mem_cons, List.not_mem_nil, or_false] at hz;rcases hz with rfl | rfl <;> exact Ak _
 ·intro z hz;simp only [List.mem_cons, List.not_mem_nil, or_false] at hz;rcases hz with rfl | rfl
  ·exact Dm hx
  ·exact Dm hy
theorem Valid_int (x : Int) (hx : Fit x) : PureFn Tryz.prog 115 [aX x] (aB true) :=
 (Valid_ok (zOf x) (Ak _)).le (AB _) (AV.Le.bool (decide_eq_true (Dm hx)))
end Go.Proofs.YtmmfloplhopioaaGreat
namespace Go.Proofs.YtmmfloplhopioaaGreat
open Go.AL
theorem Cmp_ok (x y : Int) (hx : Fit x) (hy : Fit y) : PureFn Tryz.prog 207 [aX x, aX y] (.tup [aN (cmpI x y), aN 0]) := by
 refine AC Tryz.func207 rfl Tryz.ntmps207 rfl rfl ?_;have lx := hx.len;have ly := hy.len;(repeat' (first |refine qv ?_ |apply qn |apply qs |apply qr |refine qe ?_|fail));refine ql eZ [zOf x, zOf y] ?_;refine qc (D1 x y hx hy) ?_;(repeat' (first |refine qv ?_ |apply qn |apply qs |apply qr |refine Fl.skip rfl rfl ?_ |refine AF rfl ?_ |(refine AD rfl ?_ ?_ <;> intro _ <;> try (exfalso; omega)) |(refine Aa rfl ?_ ?_ <;> intro _ <;> try (exfalso; omega)) |apply qb |apply qk |apply qt |(refine AH rfl rfl ?_ ?_ <;> intro _ <;> try (exfalso; omega)) |(refine DG rfl rfl ?_ ?_ <;> intro _ <;> try (exfalso; omega))))
 ·refine RetOk.of rfl (AV.Le.tup (LeL.cons (AV.Le.int ?_) (AB _)));rw [cmpI_lt (by omega)]
 ·refine qc (compare_ok y.natAbs x.natAbs (by omega) (by omega) (by omega) (by omega)) ?_;(repeat' (first |refine qv ?_ |apply qn |apply qt));refine RetOk.of rfl (AV.Le.tup (LeL.cons (AV.Le.int ?_) (AB _)));unfold cmpI
  (repeat' split) <;> first | rfl | omega
 ·refine RetOk.of rfl (AV.Le.tup (LeL.cons (AV.Le.int ?_) (AB _)));rw [cmpI_gt (by omega)]
 ·refine qc (compare_ok x.natAbs y.natAbs (by omega) (by omega) (by omega) (by omega)) ?_;(repeat' (first |refine qv ?_ |apply qn |apply qt));refine RetOk.of rfl (AV.Le.tup (LeL.cons (AV.Le.int ?_) (AB _)));unfold cmpI
  (repeat' split) <;> first | rfl | omega
theorem sum_ok (x y : Int) (neg : Bool) (hx : Fit x) (hy : Fit y) : PureFn Tryz.prog 232 [aX x, aX y, aB neg] (aR (x + sg neg y.natAbs)) := by
 refine AC Tryz.func232 rfl Tryz.ntmps232 rfl rfl ?_;have lx := hx.len;have ly := hy.len;have vx := Ah (show (0 : Int) ≤ x.natAbs by omega);have vy := Ah (show (0 : Int) ≤ y.natAbs by omega)
 have hle : ∀ z : Int, 0 ≤ z → z ≤ x.natAbs + y.natAbs → (toW z).length ≤ 50000 := fun z h0 h1 => by
  rw [BE h0];have h2 := hx.lt;have h3 := hy.lt;have h4 : BB 4097 = 4294967296 * BB 4096 := BC 4096;have h5 : BB 4097 ≤ BB 50000 := BB_le (by omega);omega
 (repeat' (first |refine qv ?_ |apply qn |apply qs |apply qr |refine qe ?_ |(refine AD rfl ?_ ?_ <;> intro _ <;> try (exfalso; omega)) |apply qb))
 ·rename_i hs;refine qc (plus_ok x.natAbs y.natAbs (by omega) (by omega) (by omega) (by omega)) ?_;refine Fl.call rfl (made_ok neg _ (Ak _) (by have := hle (x.natAbs + y.natAbs) (by omega) (by omega); omega)) rfl rfl rfl (AB _) ?_;(repeat' (first |refine qv ?_ |apply qn |refine qe ?_ |apply qt));refine RetOk.of rfl (AR ?_);rw [Ah (by omega), show sg neg (x.natAbs + y.natAbs) = x + sg neg y.natAbs by simp only [sg]; cases neg <;> simp at hs ⊢ <;> omega]
 ·rename_i hs;refine qc (compare_ok x.natAbs y.natAbs (by omega) (by omega) (by omega) (by omega)) ?_;(repeat' (first |refine qv ?_ |apply qn |apply qs |apply qr |(refine AD rfl ?_ ?_ <;> intro _ <;> try (exfalso; omega)) |apply qk))
  ·rename_i hc
   have hc2 : (x.natAbs : Int) < y.natAbs := by
    unfold cmpI at hc;split at hc
    ·assumption
    ·split at hc <;> omega
   refine qc (minus_ok y.natAbs x.natAbs (by omega) (by omega) (by omega)) ?_;refine Fl.call rfl (made_ok neg _ (Ak _) (by have := hle (y.natAbs - x.natAbs) (by omega) (by omega); omega)) rfl rfl rfl (AB _) ?_;(repeat' (first |refine qv ?_ |apply qn |refine qe ?_ |apply qt));refine RetOk.of rfl (AR ?_);rw [Ah (by omega), show sg neg (y.natAbs - x.natAbs) = x + sg neg y.natAbs by simp only [sg]; cases neg <;> simp at hs ⊢ <;> omega]
  ·rename_i hc
   have hc2 : (y.natAbs : Int) ≤ x.natAbs := by
    unfold cmpI at hc;split at hc
    ·omega
    ·split at hc <;> omega
   refine qc (minus_ok x.natAbs y.natAbs (by omega) (by omega) (by omega)) ?_;refine Fl.call rfl (made_ok (decide (x < 0)) _ (Ak _) (by have := hle (x.natAbs - y.natAbs) (by omega) (by omega); omega)) rfl rfl rfl (AB _) ?_;(repeat' (first |refine qv ?_ |refine Fl.nil (fun _ => by kernel_rfl) ?_ |refine qe ?_ |apply qt));refine RetOk.of rfl (AR ?_);rw [Ah (by omega), show sg (decide (x < 0)) (x.natAbs - y.natAbs) = x + sg neg y.natAbs by simp only [sg]; cases neg <;> simp at hs ⊢ <;> split <;> omega]
theorem Add_ok (x y : Int) (hx : Fit x) (hy : Fit y) : PureFn Tryz.prog 222 [aX x, aX y] (aR (x + y)) := by
 refine AC Tryz.func222 rfl Tryz.ntmps222 rfl rfl ?_;(repeat' (first |refine qv ?_ |apply qn |apply qs |apply qr |refine qe ?_|fail));refine ql eZ [zOf x, zOf y] ?_;refine qc (D1 x y hx hy) ?_;(repeat' (first |refine qv ?_ |apply qn |apply qs |apply qr |refine AF rfl ?_ |apply qk));refine qc (sum_ok x y (decide (y < 0)) hx hy) ?_;(repeat' (first |refine qv ?_ |apply qn |refine qe ?_ |apply qt));refine RetOk.of rfl (AR ?_);rw [show sg (decide (y < 0)) y.natAbs = y by simp only [sg]; simp; split <;> omega]
theorem Sub_ok (x y : Int) (hx : Fit x) (hy : Fit y) : PureFn Tryz.prog 241 [aX x, aX y] (aR (x - y)) := by
 refine AC Tryz.func241 rfl Tryz.ntmps241 rfl rfl ?_;(repeat' (first |refine qv ?_ |apply qn |apply qs |apply qr |refine qe ?_|fail));refine ql eZ [zOf x, zOf y] ?_;refine qc (D1 x y hx hy) ?_;(repeat' (first |refine qv ?_ |apply qn |apply qs |apply qr |refine AF rfl ?_ |apply qk));refine qc (sum_ok x y (!decide (y < 0)) hx hy) ?_;(repeat' (first |refine qv ?_ |apply qn |refine qe ?_ |apply qt));refine RetOk.of rfl (AR ?_);rw [show x + sg (!decide (y < 0)) y.natAbs = x - y by simp only [sg]; simp; split <;> omega]
end Go.Proofs.YtmmfloplhopioaaGreat
namespace Go.AL
theorem toW_pos {x : Int} (h : 0 < ((toW x.natAbs).length : Int)) : x ≠ 0 := by
 rintro rfl;rw [show ((Int.natAbs 0 : Nat) : Int) = 0 from rfl, toW_zero] at h;simp at h
theorem p62 : ∀ n : Int, 0 ≤ n → n ≤ 9223372036854775807 → n / 2 ^ (63 : Int).toNat = 0 := fun n h0 h1 => by rw [p63]; omega
theorem half_pow (n : Int) (i : Int) (hi : 0 ≤ i) : n / 2 ^ i.toNat = 2 * (n / 2 ^ (i + 1).toNat) + (n / 2 ^ i.toNat) % 2 := by
 have h1 : (i + 1).toNat = i.toNat + 1 := by omega
 rw [h1, Int.pow_succ, ← Int.ediv_ediv_of_nonneg (by exact Int.le_of_lt (Int.pow_pos (by omega)))];omega
theorem fit_pow_le {x : Int} {j k : Nat} (h : j ≤ k) (hf : Fit (x ^ k)) : Fit (x ^ j) := by
 unfold Fit at *
 rw [Int.natAbs_pow] at *
 rcases Nat.eq_zero_or_pos x.natAbs with h0 | h0
 ·rw [h0]
  cases j with
  | zero => rw [Nat.pow_zero]; have := Bb (x := 1) (by omega) (by omega); unfold Fit at this; exact this
  | succ j => rw [Nat.zero_pow (by omega)]; exact BB_4096_pos
 ·have h1 := Nat.pow_le_pow_right h0 h
  have h2 : ((x.natAbs ^ j : Nat) : Int) ≤ ((x.natAbs ^ k : Nat) : Int) := by exact_mod_cast h1
  omega
theorem szErr_eq {x : Int} : szErr x = 0 ↔ Fit x := by
 constructor
 ·intro h;rcases Classical.em (Fit x) with h1 | h1
  ·exact h1
  ·rw [DC h1] at h; cases h
 ·exact szErr_fit
theorem bitN_and1 {a : Int} (h : 0 ≤ a) : bitN .and a 1 = a % 2 := by
 show ((a.toNat &&& (1 : Int).toNat : Nat) : Int) = a % 2;rw [show (1 : Int).toNat = 1 from rfl, Nat.and_one_is_mod];omega
theorem pow_dbl (x : Int) {m m' : Int} (h : 0 ≤ m) (e : m' = 2 * m) : x ^ m.toNat * x ^ m.toNat = x ^ m'.toNat := by
 rw [← Int.pow_add]; congr 1; omega
theorem pow_dbl1 (x : Int) {m m' : Int} (h : 0 ≤ m) (e : m' = 2 * m + 1) : x ^ m.toNat * x ^ m.toNat * x = x ^ m'.toNat := by
 rw [← Int.pow_add, ← Int.pow_succ]; congr 1; omega
end Go.AL
namespace Go.Proofs.YtmmfloplhopioaaGreat
open Go.AL
theorem Mul_ok (x y : Int) (hx : Fit x) (hy : Fit y) : PureFn Tryz.prog 88 [aX x, aX y] (aR (x * y)) := by
 refine AC Tryz.func88 rfl Tryz.ntmps88 rfl rfl ?_;have lx := hx.len;have ly := hy.len;have lm := mul_len hx hy;have h0 : (0 : Int) ≤ x.natAbs * y.natAbs := Int.mul_nonneg (by omega) (by omega);have htimes := times_ok x.natAbs y.natAbs (by omega) (by omega) (by omega) (by omega);have hmade := made_ok (!(decide (x < 0) == decide (y < 0))) _ (Ak (x.natAbs * y.natAbs)) lm;rw [Ah h0, sg_mul] at hmade;(repeat' (first |refine qv ?_ |apply qn |apply qs |apply qr |refine qe ?_|fail));refine ql eZ [zOf x, zOf y] ?_;refine qc (D1 x y hx hy) ?_;(repeat' (first |refine qv ?_ |apply qn |apply qs |apply qr |refine qw ?_ |refine qe ?_ |refine Fl.skip rfl rfl ?_ |refine AF rfl ?_ |(refine AD rfl ?_ ?_ <;> intro _ <;> try (exfalso; omega)) |apply qk |apply qt |(refine AH rfl rfl ?_ ?_ <;> intro _ <;> try (exfalso; omega))))
 ·rename_i h1 h2 h3;refine RetOk.of rfl ?_;rw [Dy (mul_not_fit (toW_pos h1) (toW_pos h2) (by omega))];exact AV.Le.tup (LeL.cons DA (AB _))
 all_goals
  refine Fl.call rfl htimes rfl rfl rfl (AB _) ?_;refine Fl.call rfl hmade rfl rfl rfl (AB _) ?_;(repeat' (first |refine qv ?_ |refine Fl.nil (fun _ => by kernel_rfl) ?_ |refine qe ?_ |apply qt));exact RetOk.of rfl (AA _)
theorem CM (n : Int) (h0 : -9223372036854775808 ≤ n) (h1 : n ≤ 9223372036854775807) : PureFn Tryz.prog 93 [aN n] (aX n) := by
 refine AC Tryz.func93 rfl Tryz.ntmps93 rfl rfl ?_;(repeat' (first |refine qv ?_ |apply qn |apply qs |apply qr |refine qw ?_ |refine qe ?_ |(refine AD rfl ?_ ?_ <;> intro _ <;> try (exfalso; omega)) |apply qk |refine Fl.cvU rfl rfl rfl rfl rfl rfl ?_))
 all_goals
  refine ql eW [_, _] ?_;refine Fl.call rfl (made_ok (decide (n < 0)) _ (WOk.cons (by omega) (by omega) (WOk.cons (by omega) (by omega) WOk.nil)) (by simp)) rfl rfl rfl (AB _) ?_;(repeat' (first |refine qv ?_ |apply qn |apply qs |apply qr |refine qe ?_ |apply qt));refine RetOk.of rfl (AR ?_);simp only [val, p32];rw [show sg (decide (n < 0)) _ = n by simp only [sg]; simp; split <;> omega, CD (Bb (by omega) (by omega))]
theorem Power_ok (x n : Int) (hx : Fit x) (h0 : 0 ≤ n) (h1 : n ≤ 9223372036854775807) : PureFn Tryz.prog 94 [aX x, aN n] (aR (x ^ n.toNat)) := by
 refine AC Tryz.func94 rfl Tryz.ntmps94 rfl rfl ?_;(repeat' (first |refine qv ?_ |apply qn |apply qs |apply qr |refine qe ?_|fail));refine qc (Valid_int x hx) ?_;(repeat' (first |refine qv ?_ |apply qn |apply qs |apply qr |refine AF rfl ?_ |(refine AD rfl ?_ ?_ <;> intro _ <;> try (exfalso; omega)) |apply qk));refine qc (CM 1 (by omega) (by omega)) ?_;(repeat' (first |refine qv ?_ |apply qn |apply qs |apply qr |refine qe ?_ |apply qb));refine AWP.loop (G := Int × Int) (fun (i, o) => -1 ≤ i ∧ i ≤ 62 ∧ o = x ^ (n / 2 ^ (i + 1).toNat).toNat ∧ Fit o)
  (fun (i, o) => AU [] [(1, aN n), (2, .ptr 2 0), (4, .ptr 4 0), (6, .ptr 6 0), (7, aN i)] [(2, .cells (eX x) 48), (4, .cells [aB false, .v (.slice none 0 0)] 48), (6, .cells (eX o) 48)])
  (fun (i, o) => (i + 1).toNat) (62, 1) ⟨by omega, by omega, by rw [show ((62 : Int) + 1) = 63 from rfl, p62 n h0 h1]; exact (Int.pow_zero x).symm, Bb (by omega) (by omega)⟩ ?_ ?_
 ·refine Ent.of [] ?_ ?_ rfl rfl;(repeat' (first |exact True.intro |refine ⟨⟨AA _, rfl⟩, ?_⟩ |refine ⟨⟨⟨_, rfl, BLe.cells (AB _)⟩, rfl⟩, ?_⟩|fail))
 ·intro ⟨i, o⟩ ⟨k0, k1, k2, k3⟩;have q0 : 0 ≤ n / 2 ^ i.toNat := Int.ediv_nonneg h0 (Int.le_of_lt (Int.pow_pos (by omega)));have q1 : n / 2 ^ i.toNat ≤ n := Int.ediv_le_self _ h0;(repeat' (first |refine qv ?_ |apply qn |apply qs |apply qr |refine qe ?_ |(refine AD rfl ?_ ?_ <;> intro _ <;> try (exfalso; omega)) |apply qb |apply qk |apply qx |apply qt))
  ·rename_i hi;have hh := half_pow n i hi;have q2 : 0 ≤ n / 2 ^ (i + 1).toNat := Int.ediv_nonneg h0 (Int.le_of_lt (Int.pow_pos (by omega)));have hb := bitN_and1 q0;refine qc (Mul_ok o o k3 k3) ?_;(repeat' (first |refine qv ?_ |apply qn |apply qs |apply qr |refine qw ?_ |refine qe ?_ |(refine AD rfl ?_ ?_ <;> intro _ <;> try (exfalso; omega)) |(refine Aa rfl ?_ ?_ <;> intro _ <;> try (exfalso; omega)) |apply qk |apply qx |apply qt))
   ·rename_i he;have hf : ¬ Fit (o * o) := fun h => he (szErr_eq.2 h);refine RetOk.of rfl ?_;rw [Dy (x := x ^ n.toNat) ?_, DC hf]
    ·exact AV.Le.tup (LeL.cons DA (AB _))
    ·intro h;refine hf ?_;rw [k2, pow_dbl x q2 rfl];exact fit_pow_le (by omega) h
   ·rename_i he hz;have hf := szErr_eq.1 he;refine LoopEnd.of (i - 1, clip (o * o)) ⟨by omega, by omega, ?_, Fit.clip _⟩ (by simp only; omega) ?_
    ·rw [CD hf, k2, show i - 1 + 1 = i by omega];exact pow_dbl x q2 (by omega)
    ·refine Ent.of [] ?_ ?_ rfl rfl;(repeat' (first |exact True.intro |refine ⟨⟨AA _, rfl⟩, ?_⟩ |refine ⟨⟨⟨_, rfl, BLe.cells (AB _)⟩, rfl⟩, ?_⟩|fail))
   ·rename_i he hz;have hf := szErr_eq.1 he;refine qc (Mul_ok (clip (o * o)) x (Fit.clip _) hx) ?_
    have hp : o * o * x = x ^ (n / 2 ^ i.toNat).toNat := by rw [k2]; exact pow_dbl1 x q2 (by omega)
    (repeat' (first |refine qv ?_ |apply qn |apply qs |apply qr |refine qw ?_ |refine qe ?_ |(refine Aa rfl ?_ ?_ <;> intro _ <;> try (exfalso; omega)) |apply qk |apply qt))
    ·rename_i he;rw [CD hf] at he;have hf2 : ¬ Fit (o * o * x) := fun h => he (szErr_eq.2 h);refine RetOk.of rfl ?_;rw [Dy (x := x ^ n.toNat) ?_, CD hf, DC hf2]
     ·exact AV.Le.tup (LeL.cons DA (AB _))
     ·intro h;rw [hp] at hf2;exact hf2 (fit_pow_le (by omega) h)
    ·rename_i he;rw [CD hf] at he;have hf2 := szErr_eq.1 he;refine LoopEnd.of (i - 1, clip (clip (o * o) * x)) ⟨by omega, by omega, ?_, Fit.clip _⟩ (by simp only; omega) ?_
     ·rw [CD hf, CD hf2, hp, show i - 1 + 1 = i by omega]
     ·refine Ent.of [] ?_ ?_ rfl rfl;(repeat' (first |exact True.intro |refine ⟨⟨AA _, rfl⟩, ?_⟩ |refine ⟨⟨⟨_, rfl, BLe.cells (AB _)⟩, rfl⟩, ?_⟩|fail))
  ·rename_i hi
   have hi1 : i = -1 := by omega
   subst hi1;refine RetOk.of rfl ?_;rw [show n / 2 ^ ((-1 : Int) + 1).toNat = n from Int.ediv_one n] at k2;rw [← k2, Eg k3];exact AA _
end Go.Proofs.YtmmfloplhopioaaGreat
/- Binary digits. -/
namespace Go.AL
def undI (x y : Int) : Prop := x.toNat &&& y.toNat = x.toNat
instance decUndI (x y : Int) : Decidable (undI x y) := inferInstanceAs (Decidable (_ = _))
attribute [irreducible] decUndI
theorem and_split {p q r s : Nat} (hp : p < 2 ^ 32) (hr : r < 2 ^ 32) : (p + 2 ^ 32 * q) &&& (r + 2 ^ 32 * s) = (p &&& r) + 2 ^ 32 * (q &&& s) := by
 have e : ∀ a b : Nat, a < 2 ^ 32 → a + 2 ^ 32 * b = b <<< 32 ||| a := by
  intro a b h;rw [← Nat.shiftLeft_add_eq_or_of_lt h, Nat.shiftLeft_eq]; omega
 rw [e p q hp, e r s hr, e _ _ (Nat.and_lt_two_pow _ hr)];apply Nat.eq_of_testBit_eq;intro i;simp only [Nat.testBit_and, Nat.testBit_or, Nat.testBit_shiftLeft];by_cases hi : 32 ≤ i
 ·have h1 : p.testBit i = false := Nat.testBit_lt_two_pow (Nat.lt_of_lt_of_le hp (Nat.pow_le_pow_right (by omega) hi));have h2 : r.testBit i = false := Nat.testBit_lt_two_pow (Nat.lt_of_lt_of_le hr (Nat.pow_le_pow_right (by omega) hi));simp [hi, h1, h2]
 ·simp [hi]
theorem undI_cons {x y : Int} {a b : List Int} (hx0 : 0 ≤ x) (hx1 : x < 4294967296) (hy0 : 0 ≤ y) (hy1 : y < 4294967296) (ha : 0 ≤ val a) (hb : 0 ≤ val b) :
  undI (val (x :: a)) (val (y :: b)) ↔ undI x y ∧ undI (val a) (val b) := by
 unfold undI;rw [show val (x :: a) = x + 4294967296 * val a by simp only [val], show val (y :: b) = y + 4294967296 * val b by simp only [val]]
 have e1 : (x + 4294967296 * val a).toNat = x.toNat + 2 ^ 32 * (val a).toNat := by omega
 have e2 : (y + 4294967296 * val b).toNat = y.toNat + 2 ^ 32 * (val b).toNat := by omega
 rw [e1, e2, and_split (by omega) (by omega)];have h1 : x.toNat &&& y.toNat < 2 ^ 32 := Nat.and_lt_two_pow _ (by omega)
 have h2 : x.toNat < 2 ^ 32 := by omega
 generalize x.toNat &&& y.toNat = u at *
 generalize (val a).toNat &&& (val b).toNat = w at *
 generalize x.toNat = p at *
 generalize (val a).toNat = q at *
 constructor
 ·intro h; constructor <;> omega
 ·rintro ⟨rfl, rfl⟩; rfl
theorem undI_words : ∀ {a b : List Int}, WOk a → WOk b → a.length ≤ b.length → (undI (val a) (val b) ↔ ∀ (j : Nat) (x y : Int), a[j]? = some x → b[j]? = some y → undI x y)
 | [], b, _, _, _ => by
  simp only [val_nil];constructor
  ·intro _ j x y h; simp at h
  ·intro _; unfold undI; simp
 | x :: a, [], _, _, h => by simp at h
 | x :: a, y :: b, ha, hb, h => by
  have hx := ha.head;have hy := hb.head;rw [undI_cons hx.1 hx.2 hy.1 hy.2 (As ha.tail) (As hb.tail), undI_words ha.tail hb.tail (by simpa using h)];constructor
  ·intro ⟨h1, h2⟩ j u v hu hv
   cases j with
   | zero => simp at hu hv; subst hu hv; exact h1
   | succ j => exact h2 j u v (by simpa using hu) (by simpa using hv)
  ·intro h1;exact ⟨h1 0 x y (by simp) (by simp), fun j u v hu hv => h1 (j + 1) u v (by simpa using hu) (by simpa using hv)⟩
theorem undI_le {x y : Int} (hx : 0 ≤ x) (hy : 0 ≤ y) (h : undI x y) : x ≤ y := by
 unfold undI at h;have := @Nat.and_le_right x.toNat y.toNat;omega
theorem xor_zero_iff {a b : Nat} : a ^^^ b = 0 ↔ a = b := by
 constructor
 ·intro h
  have h2 : (a ^^^ b) ^^^ b = 0 ^^^ b := by rw [h]
  rwa [Nat.xor_assoc, Nat.xor_self, Nat.xor_zero, Nat.zero_xor] at h2
 ·rintro rfl; exact Nat.xor_self _
theorem andNot_zero {x y : Int} : bitN .andNot x y = 0 ↔ undI x y := by
 show ((x.toNat ^^^ (x.toNat &&& y.toNat) : Nat) : Int) = 0 ↔ _;unfold undI;rw [Int.natCast_eq_zero, xor_zero_iff];exact eq_comm
end Go.AL
namespace Go.AL
def I64 (x : Int) : Prop := -9223372036854775808 ≤ x ∧ x ≤ 9223372036854775807
instance decI64 (x : Int) : Decidable (I64 x) := inferInstanceAs (Decidable (_ ∧ _))
attribute [irreducible] decI64
theorem or_shift {m u : Int} {i : Nat} (h0 : 0 ≤ m) (h1 : m < BB i) (h2 : 0 ≤ u) (h3 : u < 4294967296) (hi : i < 2) : bitN .or m (u * 2 ^ (32 * (i : Int)).toNat % 18446744073709551616) = m + BB i * u := by
 have hi2 : i = 0 ∨ i = 1 := by omega
 rcases hi2 with rfl | rfl
 ·rw [DB] at h1 ⊢
  have : m = 0 := by omega
  subst this;show (((0 : Int).toNat ||| (u * 2 ^ (0 : Nat) % 18446744073709551616).toNat : Nat) : Int) = _;rw [show (0 : Int).toNat = 0 from rfl, Nat.zero_or];omega
 ·have hB : BB 1 = 4294967296 := by rw [BC, DB]; rfl
  rw [hB] at h1 ⊢;show ((m.toNat ||| (u * 2 ^ (32 : Nat) % 18446744073709551616).toNat : Nat) : Int) = _
  have e : (u * 2 ^ (32 : Nat) % 18446744073709551616).toNat = u.toNat <<< 32 := by rw [Nat.shiftLeft_eq]; omega
  rw [e, Nat.or_comm, ← Nat.shiftLeft_add_eq_or_of_lt (by omega : m.toNat < 2 ^ 32), Nat.shiftLeft_eq];omega
theorem not_I64 {x : Int} (h : 2 < (toW x.natAbs).length) : ¬ I64 x := by
 have h1 := BB_len_le (z := x.natAbs) (by
  rcases Nat.eq_zero_or_pos x.natAbs with h0 | h0
  ·rw [h0, show ((0 : Nat) : Int) = 0 from rfl, toW_zero] at h; simp at h
  ·omega)
 have h2 := BB_le (show 2 ≤ (toW x.natAbs).length - 1 by omega);rw [BB_2] at h2;unfold I64; omega
end Go.AL
namespace Go.Proofs.YtmmfloplhopioaaGreat
open Go.AL
theorem Small_ok (x : Int) (hx : Fit x) : PureFn Tryz.prog 51 [aX x] (.tup [aN (if I64 x then x else 0), aB (decide (I64 x))]) := by
 refine AC Tryz.func51 rfl Tryz.ntmps51 rfl rfl ?_;have lx := hx.len;have wx := Ak x.natAbs;have vx := Ah (show (0 : Int) ≤ x.natAbs by omega);(repeat' (first |refine qv ?_ |apply qn |apply qs |apply qr |refine qe ?_|fail));refine qc (Valid_int x hx) ?_;(repeat' (first |refine qv ?_ |apply qn |apply qs |apply qr |(refine AD rfl ?_ ?_ <;> intro _ <;> try (exfalso; omega)) |apply qb |apply qk |apply qt))
 ·rename_i h;have hn := not_I64 (x := x) (by omega);refine RetOk.of rfl (AV.Le.tup (LeL.cons (AV.Le.int ?_) (LeL.cons (AV.Le.bool ?_) LeL.nil)))
  ·rw [if_neg hn]
  ·simp [hn]
 ·rename_i hl;refine AWP.loop (G := Nat × Int) (fun (i, m) => i ≤ (toW x.natAbs).length ∧ m = val ((toW x.natAbs).take i) ∧ 0 ≤ m ∧ m < BB i ∧ m ≤ 18446744073709551615)
   (fun (i, m) => AU [] [(1, .ptr 1 0), (4, aU m), (17, aW (toW x.natAbs)), (18, aN (toW x.natAbs).length), (19, aN i)] [(1, .cells (eX x) 48)])
   (fun (i, m) => (toW x.natAbs).length - i) (0, 0) ⟨by omega, by simp [val], by omega, by rw [DB]; omega, by omega⟩ ?_ ?_
  ·refine Ent.of [] ?_ ?_ rfl rfl;(repeat' (first |exact True.intro |refine ⟨⟨AA _, rfl⟩, ?_⟩ |refine ⟨⟨⟨_, rfl, BLe.cells (AB _)⟩, rfl⟩, ?_⟩|fail))
  ·intro ⟨i, m⟩ ⟨k0, k1, k2, k3, k4⟩;(repeat' (first |refine qv ?_ |apply qn |apply qs |apply qr |refine qw ?_ |refine Fl.skip rfl rfl ?_ |refine AM rfl ?_ |refine AF rfl ?_ |(refine AD rfl ?_ ?_ <;> intro _ <;> try (exfalso; omega)) |apply qb |apply qk |apply qx |apply qt |(refine B5 rfl rfl rfl rfl rfl rfl rfl rfl (by omega) (by omega) (by assumption) ?_; intro _ _ _ _) |refine Fl.cvS rfl rfl rfl rfl rfl rfl ?_ |(refine AH rfl rfl ?_ ?_ <;> intro _ <;> try (exfalso; omega))))
   ·rename_i hi u hu hu0 hu1;rw [Int.toNat_natCast] at hu
    have hi2 : i < 2 := by omega
    have hor := or_shift (i := i) k2 k3 hu0 hu1 hi2;have hb : BB (i + 1) ≤ BB 2 := BB_le (by omega);rw [BB_2] at hb
    have hlt : m + BB i * u < BB (i + 1) := by
     rw [BC];have h5 := Bc i;have h6 : BB i * u ≤ BB i * 4294967295 := Int.mul_le_mul_of_nonneg_left (by omega) (by omega);omega
    have h0 : 0 ≤ BB i * u := Int.mul_nonneg (Int.le_of_lt (Bc i)) hu0;refine LoopEnd.of (i + 1, m + BB i * u) ⟨by omega, by rw [k1, Ag hu], by omega, hlt, by omega⟩ (by simp only; omega) ?_;refine Ent.of [] ?_ ?_ rfl rfl;(repeat' (first |exact True.intro |refine ⟨⟨AA _, rfl⟩, ?_⟩ |refine ⟨⟨⟨_, rfl, BLe.cells (AB _)⟩, rfl⟩, ?_⟩ |refine ⟨⟨AV.Le.int ?_, rfl⟩, ?_⟩|fail));exact hor
   all_goals
    have hii : i = (toW x.natAbs).length := by omega
    have hm : m = x.natAbs := by rw [k1, hii, List.take_length, vx]
   ·refine RetOk.of rfl (AV.Le.tup (LeL.cons (AV.Le.int ?_) (LeL.cons (AV.Le.bool ?_) LeL.nil)))
    ·rw [if_pos (show I64 x by unfold I64; omega)]; omega
    ·exact (decide_eq_true (show I64 x by unfold I64; omega)).symm
   ·refine RetOk.of rfl (AV.Le.tup (LeL.cons (AV.Le.int ?_) (LeL.cons (AV.Le.bool ?_) LeL.nil)))
    ·rw [if_neg (show ¬ I64 x by unfold I64; omega)]
    ·exact (decide_eq_false (show ¬ I64 x by unfold I64; omega)).symm
   ·refine RetOk.of rfl (AV.Le.tup (LeL.cons (AV.Le.int ?_) (LeL.cons (AV.Le.bool ?_) LeL.nil)))
    ·rw [if_neg (show ¬ I64 x by unfold I64; omega)]
    ·exact (decide_eq_false (show ¬ I64 x by unfold I64; omega)).symm
   ·refine RetOk.of rfl (AV.Le.tup (LeL.cons (AV.Le.int ?_) (LeL.cons (AV.Le.bool ?_) LeL.nil)))
    ·rw [if_pos (show I64 x by unfold I64; omega)]; omega
    ·exact (decide_eq_true (show I64 x by unfold I64; omega)).symm
theorem Under_ok (x y : Int) (hx : Fit x) (hy : Fit y) : PureFn Tryz.prog 139 [aX x, aX y] (.tup [aB (decide (0 ≤ x ∧ 0 ≤ y ∧ undI x y)), aN (if x < 0 ∨ y < 0 then 2 else 0)]) := by
 refine AC Tryz.func139 rfl Tryz.ntmps139 rfl rfl ?_;have lx := hx.len;have ly := hy.len;have wx := Ak x.natAbs;have wy := Ak y.natAbs;(repeat' (first |refine qv ?_ |apply qn |apply qs |apply qr |refine qe ?_|fail));refine ql eZ [zOf x, zOf y] ?_;refine qc (D1 x y hx hy) ?_;(repeat' (first |refine qv ?_ |apply qn |apply qs |apply qr |refine Fl.skip rfl rfl ?_ |refine AM rfl ?_ |refine AF rfl ?_ |(refine AD rfl ?_ ?_ <;> intro _ <;> try (exfalso; omega)) |apply qb |apply qk |apply qt |(refine AH rfl rfl ?_ ?_ <;> intro _ <;> try (exfalso; omega))))
 ·rename_i h;refine RetOk.of rfl (AV.Le.tup (LeL.cons (AV.Le.bool (Eq.symm (decide_eq_false fun h => by omega))) (LeL.cons (AV.Le.int (Eq.symm (if_pos (by omega)))) LeL.nil)))
 ·rename_i h;refine RetOk.of rfl (AV.Le.tup (LeL.cons (AV.Le.bool (Eq.symm (decide_eq_false fun h => by omega))) (LeL.cons (AV.Le.int (Eq.symm (if_pos (by omega)))) LeL.nil)))
 ·rename_i h0 h1 h
  have h2 : ¬ undI x y := fun h2 => by
   have h3 := undI_le (by omega) (by omega) h2
   have h4 := (BE (show (0 : Int) ≤ x.natAbs by omega) (toW y.natAbs).length).2 (by
    have := (BE (show (0 : Int) ≤ y.natAbs by omega) (toW y.natAbs).length).1 (Nat.le_refl _)
    omega)
   omega
  refine RetOk.of rfl (AV.Le.tup (LeL.cons (AV.Le.bool (Eq.symm (decide_eq_false fun h => h2 h.2.2))) (LeL.cons (AV.Le.int (Eq.symm (if_neg (by omega)))) LeL.nil)))
 ·rename_i h0 h1 hl
  have hvx : val (toW x.natAbs) = x := by rw [Ah (by omega)]; omega
  have hvy : val (toW y.natAbs) = y := by rw [Ah (by omega)]; omega
  have hw := undI_words wx wy (by omega);rw [hvx, hvy] at hw;refine AWP.loop (G := Nat) (fun i => i ≤ (toW x.natAbs).length ∧ ∀ (j : Nat) (u v : Int), j < i → (toW x.natAbs)[j]? = some u → (toW y.natAbs)[j]? = some v → undI u v)
   (fun i => AU [] [(3, .ptr 3 0), (27, aW (toW x.natAbs)), (28, aN (toW x.natAbs).length), (29, aN i)] [(3, .cells (eX y) 48)])
   (fun i => (toW x.natAbs).length - i) 0 ⟨by omega, fun j u v hj => by omega⟩ ?_ ?_
  ·refine Ent.of [] ?_ ?_ rfl rfl;(repeat' (first |exact True.intro |refine ⟨⟨AA _, rfl⟩, ?_⟩ |refine ⟨⟨⟨_, rfl, BLe.cells (AB _)⟩, rfl⟩, ?_⟩|fail))
  ·intro i ⟨k0, k1⟩;(repeat' (first |refine qv ?_ |apply qn |apply qs |apply qr |refine qw ?_ |(refine AD rfl ?_ ?_ <;> intro _ <;> try (exfalso; omega)) |(refine Aa rfl ?_ ?_ <;> intro _ <;> try (exfalso; omega)) |apply qb |apply qk |apply qx |apply qt |(refine B5 rfl rfl rfl rfl rfl rfl rfl rfl (by omega) (by omega) (by assumption) ?_; intro _ _ _ _)|fail))
   ·rename_i hi u hu hu0 hu1 v hv hv0 hv1 hz;rw [Int.toNat_natCast] at hu hv;have h2 : ¬ undI x y := fun h2 => hz (andNot_zero.2 (hw.1 h2 i u v hu hv));refine RetOk.of rfl (AV.Le.tup (LeL.cons (AV.Le.bool (Eq.symm (decide_eq_false fun h => h2 h.2.2))) (LeL.cons (AV.Le.int (Eq.symm (if_neg (by omega)))) LeL.nil)))
   ·rename_i hi u hu hu0 hu1 v hv hv0 hv1 hz;rw [Int.toNat_natCast] at hu hv;refine LoopEnd.of (i + 1) ⟨by omega, fun j p q hj hp hq => ?_⟩ (by omega) ?_
    ·rcases Nat.lt_or_ge j i with h | h
     ·exact k1 j p q h hp hq
     ·have : j = i := by omega
      subst this;rw [hu] at hp; rw [hv] at hq;injection hp with hp; injection hq with hq;subst hp hq;exact andNot_zero.1 hz
    ·refine Ent.of [] ?_ ?_ rfl rfl;(repeat' (first |exact True.intro |refine ⟨⟨AA _, rfl⟩, ?_⟩ |refine ⟨⟨⟨_, rfl, BLe.cells (AB _)⟩, rfl⟩, ?_⟩|fail))
   ·have h2 : undI x y := hw.2 fun j u v hu hv => k1 j u v (by
     have := (List.getElem?_eq_some_iff.1 hu).1
     omega) hu hv
    refine RetOk.of rfl (AV.Le.tup (LeL.cons (AV.Le.bool (Eq.symm (decide_eq_true ⟨by omega, by omega, h2⟩))) (LeL.cons (AV.Le.int (Eq.symm (if_neg (by omega)))) LeL.nil)))
end Go.Proofs.YtmmfloplhopioaaGreat
/- Package exact: operations that throw. -/
namespace Go.Proofs.YtmmfloplhopioaaGreat
open Go.AL
def BF (e : Int) : List PanicEntry := [{ v := .iface 219 (.int .i64 e), recovered := false }]
theorem Zero_ok (z : Z) : PureFn Tryz.prog 201 [aZ z] (aB (decide (z.w.length = 0))) := by
 refine AC Tryz.func201 rfl Tryz.ntmps201 rfl rfl ?_;(repeat' (first |refine qv ?_ |apply qn |apply qs |apply qr |refine qe ?_ |apply qt));refine RetOk.of rfl (AV.Le.bool ?_);simp
theorem xValid_ok (zs : List Z) (hz : ∀ z ∈ zs, WOk z.w) (hl : zs.length ≤ 1000000000) : PureFn Tryz.prog 177 [.sl 2 eZ zs] (aB (decide (∀ z ∈ zs, OkZ z))) := by
 refine AC Tryz.func177 rfl Tryz.ntmps177 rfl rfl ?_;(repeat' (first |refine qv ?_ |apply qn |apply qs |apply qr |apply qb));refine AWP.loop (G := Nat) (fun i => i ≤ zs.length ∧ ∀ z ∈ zs.take i, OkZ z) (fun i => AU [] [(5, .sl 2 eZ zs), (6, aN zs.length), (7, aN i)] []) (fun i => zs.length - i) 0 ⟨by omega, by simp⟩ ?_ ?_
 ·refine Ent.of [] ?_ ?_ rfl rfl;(repeat' (first |exact True.intro |refine ⟨⟨AA _, rfl⟩, ?_⟩|fail))
 ·intro i ⟨h0, h1⟩;(repeat' (first |refine qv ?_ |apply qn |apply qs |apply qr |refine qe ?_ |(refine AD rfl ?_ ?_ <;> intro _ <;> try (exfalso; omega)) |apply qb |apply qk |apply qx |apply qt |(refine Aw rfl rfl rfl rfl rfl rfl rfl rfl (by omega) (by omega) ?_; intro _ _)|fail))
  ·rename_i hi z hzi;rw [Int.toNat_natCast] at hzi;refine qc (Valid_ok z (hz z (List.mem_of_getElem? hzi))) ?_;(repeat' (first |refine qv ?_ |apply qn |apply qs |apply qr |refine qw ?_ |(refine Aa rfl ?_ ?_ <;> intro _ <;> try (exfalso; omega)) |apply qk |apply qt))
   ·rename_i h2;refine RetOk.of rfl (AV.Le.bool (Eq.symm (decide_eq_false fun h => h2 (h z (List.mem_of_getElem? hzi)))))
   ·rename_i h2;refine LoopEnd.of (i + 1) ⟨by omega, BW hzi h1 h2⟩ (by omega) ?_;refine Ent.of [] ?_ ?_ rfl rfl;(repeat' (first |exact True.intro |refine ⟨⟨AA _, rfl⟩, ?_⟩|fail))
  ·refine RetOk.of rfl (AV.Le.bool (Eq.symm (decide_eq_true ?_)));rwa [show i = zs.length by omega, List.take_length] at h1
theorem Throw_ok (e : Int) : IoFn Tryz.prog 212 [aN e] [] (.thr (BF e)) [] := by
 refine AG Tryz.func212 rfl Tryz.ntmps212 rfl rfl rfl ?_;(repeat' (first |refine qv ?_ |apply qr));refine Fl.mi rfl rfl rfl rfl rfl rfl ?_;exact Fl.pan rfl rfl rfl (fun h => by cases h) (fun _ => rfl)
theorem ok_ret (x : Int) : PureFn Tryz.prog 221 [aX x, aN 0] (aX x) := by
 refine AC Tryz.func221 rfl Tryz.ntmps221 rfl rfl ?_;(repeat' (first |refine qv ?_ |apply qn |apply qs |apply qr |refine qe ?_ |refine AF rfl ?_ |apply qk |apply qt));exact RetOk.of rfl (AA _)
theorem ok_thr (x e : Int) (he : e ≠ 0) : IoFn Tryz.prog 221 [aX x, aN e] [] (.thr (BF e)) [] := by
 refine AG Tryz.func221 rfl Tryz.ntmps221 rfl rfl rfl ?_;(repeat' (first |refine qv ?_ |apply qn |apply qs |apply qr |refine qe ?_ |(refine Aa rfl ?_ ?_ <;> intro _ <;> try (exfalso; omega))));exact Ax rfl [] (Throw_ok e) rfl (AB _) rfl trivial rfl (fun h => by cases h) (fun _ => rfl)
theorem xAdd_ret (x y : Int) (hx : Fit x) (hy : Fit y) (hf : Fit (x + y)) : PureFn Tryz.prog 206 [aX x, aX y] (aX (x + y)) := by
 refine AC Tryz.func206 rfl Tryz.ntmps206 rfl rfl ?_;have h := Add_ok x y hx hy;rw [Eg hf] at h;(repeat' (first |refine qv ?_ |apply qn |apply qs |apply qr |refine qe ?_|fail));refine Fl.call rfl h rfl rfl rfl (AB _) ?_;(repeat' (first |refine qv ?_|fail));refine qc (ok_ret (x + y)) ?_;(repeat' (first |apply qn |refine qe ?_ |apply qt));exact RetOk.of rfl (AA _)
theorem xAdd_thr (x y : Int) (hx : Fit x) (hy : Fit y) (hf : ¬ Fit (x + y)) : IoFn Tryz.prog 206 [aX x, aX y] [] (.thr (BF 4)) [] := by
 refine AG Tryz.func206 rfl Tryz.ntmps206 rfl rfl rfl ?_;have h := Add_ok x y hx hy;rw [Dy hf] at h;(repeat' (first |refine qv ?_ |apply qn |apply qs |apply qr |refine qe ?_|fail));refine Fl.call rfl h rfl rfl rfl (AB _) ?_;(repeat' (first |refine qv ?_|fail));exact Ax rfl [] (ok_thr 0 4 (by omega)) rfl (AB _) rfl trivial rfl (fun h => by cases h) (fun _ => rfl)
theorem xMul_ret (x y : Int) (hx : Fit x) (hy : Fit y) (hf : Fit (x * y)) : PureFn Tryz.prog 214 [aX x, aX y] (aX (x * y)) := by
 refine AC Tryz.func214 rfl Tryz.ntmps214 rfl rfl ?_;have h := Mul_ok x y hx hy;rw [Eg hf] at h;(repeat' (first |refine qv ?_ |apply qn |apply qs |apply qr |refine qe ?_|fail));refine Fl.call rfl h rfl rfl rfl (AB _) ?_;(repeat' (first |refine qv ?_|fail));refine qc (ok_ret (x * y)) ?_;(repeat' (first |apply qn |refine qe ?_ |apply qt));exact RetOk.of rfl (AA _)
theorem xMul_thr (x y : Int) (hx : Fit x) (hy : Fit y) (hf : ¬ Fit (x * y)) : IoFn Tryz.prog 214 [aX x, aX y] [] (.thr (BF 4)) [] := by
 refine AG Tryz.func214 rfl Tryz.ntmps214 rfl rfl rfl ?_;have h := Mul_ok x y hx hy;rw [Dy hf] at h;(repeat' (first |refine qv ?_ |apply qn |apply qs |apply qr |refine qe ?_|fail));refine Fl.call rfl h rfl rfl rfl (AB _) ?_;(repeat' (first |refine qv ?_|fail));exact Ax rfl [] (ok_thr 0 4 (by omega)) rfl (AB _) rfl trivial rfl (fun h => by cases h) (fun _ => rfl)
theorem xPower_ret (x n : Int) (hx : Fit x) (h0 : 0 ≤ n) (h1 : n ≤ 9223372036854775807) (hf : Fit (x ^ n.toNat)) : PureFn Tryz.prog 220 [aX x, aN n] (aX (x ^ n.toNat)) := by
 refine AC Tryz.func220 rfl Tryz.ntmps220 rfl rfl ?_;have h := Power_ok x n hx h0 h1;rw [Eg hf] at h;(repeat' (first |refine qv ?_ |apply qn |apply qs |apply qr |refine qe ?_|fail));refine Fl.call rfl h rfl rfl rfl (AB _) ?_;(repeat' (first |refine qv ?_|fail));refine qc (ok_ret (x ^ n.toNat)) ?_;(repeat' (first |apply qn |refine qe ?_ |apply qt));exact RetOk.of rfl (AA _)
theorem xPower_thr (x n : Int) (hx : Fit x) (h0 : 0 ≤ n) (h1 : n ≤ 9223372036854775807) (hf : ¬ Fit (x ^ n.toNat)) : IoFn Tryz.prog 220 [aX x, aN n] [] (.thr (BF 4)) [] := by
 refine AG Tryz.func220 rfl Tryz.ntmps220 rfl rfl rfl ?_;have h := Power_ok x n hx h0 h1;rw [Dy hf] at h;(repeat' (first |refine qv ?_ |apply qn |apply qs |apply qr |refine qe ?_|fail));refine Fl.call rfl h rfl rfl rfl (AB _) ?_;(repeat' (first |refine qv ?_|fail));exact Ax rfl [] (ok_thr 0 4 (by omega)) rfl (AB _) rfl trivial rfl (fun h => by cases h) (fun _ => rfl)
end Go.Proofs.YtmmfloplhopioaaGreat
namespace Go.Proofs.YtmmfloplhopioaaGreat
open Go.AL
theorem Try1_quiet : DefOk Tryz.prog 204 34 .returning .returning 0 := by
 refine defOk_of (tab := tab) (x := .nilIface) (r := .tup []) Tryz.func204 rfl Tryz.ntmps204 rfl rfl rfl rfl rfl rfl rfl rfl rfl (fun c₀ cs h => .inr ⟨by simp [recoverD, h], rfl, rfl⟩) ?_;(repeat' (first |refine qv ?_ |apply qs |apply qr));refine Fl.neqN rfl rfl rfl rfl (fun w => run_neq_nil_nil w _ (by kernel_rfl)) ?_;(repeat' (first |apply qn |refine AF rfl ?_ |apply qk));exact ⟨⟨[], _, _, AK _ _ _, rfl, AA _, rfl, ⟨⟨⟨_, rfl, BLe.cells (AB _)⟩, rfl⟩, trivial⟩, rfl, rfl⟩⟩
theorem Try1_thrown (e : Int) : DefOk Tryz.prog 204 34 (.panicking (BF e)) (.panicking [{ v := .iface 219 (.int .i64 e), recovered := true }]) e := by
 refine defOk_of (tab := tab) (x := .iface 219 (.int .i64 e)) (r := .tup []) Tryz.func204 rfl Tryz.ntmps204 rfl rfl rfl rfl rfl rfl rfl rfl rfl (fun c₀ cs h => .inl (by simp [recoverD, h, BF])) ?_;(repeat' (first |refine qv ?_ |apply qs |apply qr));refine Fl.neqI rfl rfl rfl rfl (fun w => run_neq_held_nil w _ _ _ (by kernel_rfl)) ?_;(repeat' (first |refine qv ?_ |apply qn |apply qs |apply qr |refine AM rfl ?_));refine Fl.taI rfl rfl rfl rfl rfl rfl ?_;(repeat' (first |refine qv ?_ |apply qn |apply qs |apply qr |refine qe ?_ |refine AF rfl ?_ |apply qk));exact ⟨⟨[], _, _, AK _ _ _, rfl, AA _, rfl, ⟨⟨⟨_, rfl, BLe.cells (AB _)⟩, rfl⟩, trivial⟩, rfl, rfl⟩⟩
theorem Try_ret {cf : FuncId} {caps : List AV} {bxs bxs' : List (AL.Id × Bx)} {r : AV} (h : IoFn Tryz.prog cf caps bxs (.ret r) bxs') : IoFn Tryz.prog 178 [.fn cf caps] bxs (.ret (aN 0)) bxs' :=
 try_io (tab := tab) (res := .ret r) Tryz.func178 rfl Tryz.ntmps178 rfl ⟨_, Tryz.func204, rfl, rfl⟩ rfl ⟨rfl, rfl, rfl⟩ ⟨rfl, rfl, rfl⟩ ⟨rfl, rfl, rfl⟩ ⟨rfl, rfl, rfl⟩ ⟨rfl, rfl, rfl⟩ ⟨rfl, rfl, rfl⟩ rfl h ⟨rfl, Try1_quiet⟩
theorem Try_thr {cf : FuncId} {caps : List AV} {bxs bxs' : List (AL.Id × Bx)} {e : Int} (h : IoFn Tryz.prog cf caps bxs (.thr (BF e)) bxs') : IoFn Tryz.prog 178 [.fn cf caps] bxs (.ret (aN e)) [] :=
 try_io (tab := tab) (res := .thr (BF e)) Tryz.func178 rfl Tryz.ntmps178 rfl ⟨_, Tryz.func204, rfl, rfl⟩ rfl ⟨rfl, rfl, rfl⟩ ⟨rfl, rfl, rfl⟩ ⟨rfl, rfl, rfl⟩ ⟨rfl, rfl, rfl⟩ ⟨rfl, rfl, rfl⟩ ⟨rfl, rfl, rfl⟩ rfl h ⟨_, _, rfl, by simp, rfl, Try1_thrown e⟩
end Go.Proofs.YtmmfloplhopioaaGreat
/- Terms, polynomials, links, az the program holds them. -/
namespace Go.AL
structure TZ where
  c : Z
  e : List Int
def eT : TZ → List AV := fun t => [aB t.c.neg, aW t.c.w, aI t.e]
abbrev aT (t : TZ) : AV := .agg [aB t.c.neg, aW t.c.w, aI t.e]
structure PZ where
  vars : Int
  terms : List TZ
def eP : PZ → List AV := fun p => [aN p.vars, .sl 3 eT p.terms]
abbrev aP (p : PZ) : AV := .agg [aN p.vars, .sl 3 eT p.terms]
structure LZ where
  kind : Int
  vars : List Int
  polys : List PZ
def eL : LZ → List AV := fun l => [aN l.kind, aI l.vars, .sl 2 eP l.polys]
abbrev aL (l : LZ) : AV := .agg [aN l.kind, aI l.vars, .sl 2 eP l.polys]
structure SZ where
  vars : Int
  links : List LZ
abbrev aS (s : SZ) : AV := .agg [aN s.vars, .sl 3 eL s.links]
def sumL : List Int → Int
  | [] => 0
  | x :: l => x + sumL l
theorem CK : ∀ l m : List Int, sumL (l ++ m) = sumL l + sumL m
 | [], m => by simp [sumL]
 | x :: l, m => by simp only [List.cons_append, sumL, CK l m]; omega
theorem DL {l : List Int} {i : Nat} {x : Int} (h : l[i]? = some x) : sumL (l.take (i + 1)) = sumL (l.take i) + x := by
 rw [Ad h, CK]; simp [sumL]
end Go.AL
namespace Go.AL
def EOk (l : List Int) : Prop := ∀ e ∈ l, 0 ≤ e ∧ e ≤ 120
theorem EOk.get {l : List Int} (h : EOk l) {i : Nat} {x : Int} (hx : l[i]? = some x) : 0 ≤ x ∧ x ≤ 120 := h x (List.mem_of_getElem? hx)
theorem CJ : ∀ {l : List Int}, EOk l → 0 ≤ sumL l ∧ sumL l ≤ 120 * l.length
 | [], _ => by simp [sumL]
 | x :: l, h => by
  have h1 := CJ (l := l) fun e he => h e (by simp [he]);have h2 := h x (by simp);simp only [sumL, List.length_cons];omega
theorem EOk.take {l : List Int} (h : EOk l) (n : Nat) : EOk (l.take n) := fun e he => h e (List.mem_of_mem_take he)
end Go.AL
namespace Go.Proofs.YtmmfloplhopioaaGreat
open Go.AL
theorem EE (t : TZ) (he : EOk t.e) (hl : t.e.length ≤ 100000) : PureFn Tryz.prog 202 [aT t] (aN (sumL t.e)) := by
 refine AC Tryz.func202 rfl Tryz.ntmps202 rfl rfl ?_;(repeat' (first |refine qv ?_ |apply qn |apply qs |apply qr |refine qe ?_ |apply qb));refine AWP.loop (G := Nat) (fun i => i ≤ t.e.length) (fun i => AU [] [(3, aN (sumL (t.e.take i))), (7, aI t.e), (8, aN t.e.length), (9, aN i)] []) (fun i => t.e.length - i) 0 (by omega) ?_ ?_
 ·refine Ent.of [] ?_ ?_ rfl rfl;(repeat' (first |exact True.intro |refine ⟨⟨AA _, rfl⟩, ?_⟩|fail))
 ·intro i h0;have hs := CJ (he.take i);have hi := List.length_take (l := t.e) (i := i);(repeat' (first |refine qv ?_ |apply qn |apply qs |apply qr |(refine AD rfl ?_ ?_ <;> intro _ <;> try (exfalso; omega)) |apply qb |apply qk |apply qx |apply qt |(refine Aw rfl rfl rfl rfl rfl rfl rfl rfl (by omega) (by omega) ?_; intro _ _)|fail))
  ·rename_i hlt x hx;rw [Int.toNat_natCast] at hx;have hb := he.get hx;(repeat' (first |refine qv ?_ |apply qn |apply qr |refine qw ?_|fail));refine LoopEnd.of (i + 1) (by omega) (by omega) ?_;refine Ent.of [] ?_ ?_ rfl rfl;(repeat' (first |exact True.intro |refine ⟨⟨AA _, rfl⟩, ?_⟩ |refine ⟨⟨AV.Le.int ?_, rfl⟩, ?_⟩|fail));exact (DL hx).symm
  ·refine RetOk.of rfl (AV.Le.int ?_);rw [show i = t.e.length by omega, List.take_length]
end Go.Proofs.YtmmfloplhopioaaGreat
namespace Go.AL
def cmpL : List Int → List Int → Int
  | [], [] => 0
  | [], _ :: _ => -1
  | _ :: _, [] => 1
  | x :: a, y :: b => if cmpI x y = 0 then cmpL a b else cmpI x y
theorem cmpL_drop {a b : List Int} {i : Nat} {x y : Int} (hx : a[i]? = some x) (hy : b[i]? = some y) : cmpL (a.drop i) (b.drop i) = if cmpI x y = 0 then cmpL (a.drop (i + 1)) (b.drop (i + 1)) else cmpI x y := by
 have hi : i < a.length := (List.getElem?_eq_some_iff.1 hx).1;have hi2 : i < b.length := (List.getElem?_eq_some_iff.1 hy).1;rw [List.drop_eq_getElem_cons hi, List.drop_eq_getElem_cons hi2, (List.getElem?_eq_some_iff.1 hx).2, (List.getElem?_eq_some_iff.1 hy).2];simp only [cmpL]
theorem cmpL_long {a b : List Int} {i : Nat} (h1 : i < a.length) (h2 : b.length ≤ i) : cmpL (a.drop i) (b.drop i) = 1 := by
 rw [List.drop_eq_getElem_cons h1, List.drop_of_length_le h2]; rfl
theorem cmpL_short {a b : List Int} {i : Nat} (h1 : a.length ≤ i) (h2 : i < b.length) : cmpL (a.drop i) (b.drop i) = -1 := by
 rw [List.drop_eq_getElem_cons h2, List.drop_of_length_le h1]; rfl
theorem cmpL_end {a b : List Int} {i : Nat} (h1 : a.length ≤ i) (h2 : b.length ≤ i) : cmpL (a.drop i) (b.drop i) = 0 := by
 rw [List.drop_of_length_le h2, List.drop_of_length_le h1]; rfl
end Go.AL
namespace Go.Proofs.YtmmfloplhopioaaGreat
open Go.AL
theorem isNaN_ok (x : Int) : PureFn Tryz.prog 239 [aN x] (aB false) := by
 refine AC Tryz.func239 rfl Tryz.ntmps239 rfl rfl ?_;(repeat' (first |refine qv ?_ |apply qn |apply qs |apply qr |apply qt));refine RetOk.of rfl (AV.Le.bool ?_);simp
theorem cmpCompare_ok (x y : Int) : PureFn Tryz.prog 231 [aN x, aN y] (aN (cmpI x y)) := by
 refine AC Tryz.func231 rfl Tryz.ntmps231 rfl rfl ?_;(repeat' (first |refine qv ?_ |apply qn |apply qs |apply qr));refine qc (isNaN_ok x) ?_;(repeat' (first |refine qv ?_ |apply qn |apply qs |apply qr));refine qc (isNaN_ok y) ?_;(repeat' (first |refine qv ?_ |apply qn |apply qs |apply qr |refine AF rfl ?_ |(refine AD rfl ?_ ?_ <;> intro _ <;> try (exfalso; omega)) |apply qk |apply qt))
 ·refine RetOk.of rfl (AV.Le.int ?_);rw [cmpI_lt (by omega)]
 ·refine RetOk.of rfl (AV.Le.int ?_);rw [cmpI_gt (by omega)]
 ·refine RetOk.of rfl (AV.Le.int ?_);rw [cmpI_eq (by omega)]
theorem slicesCompare_ok (a b : List Int) (ha : a.length ≤ 100000) (hb : b.length ≤ 100000) : PureFn Tryz.prog 219 [aI a, aI b] (aN (cmpL a b)) := by
 refine AC Tryz.func219 rfl Tryz.ntmps219 rfl rfl ?_;(repeat' (first |refine qv ?_ |apply qn |apply qs |apply qr |apply qb));refine AWP.loop (G := Nat) (fun i => i ≤ a.length ∧ i ≤ b.length ∧ cmpL (a.drop i) (b.drop i) = cmpL a b) (fun i => AU [] [(0, aI a), (1, aI b), (9, aI a), (10, aN a.length), (11, aN i)] []) (fun i => a.length - i) 0 ⟨by omega, by omega, rfl⟩ ?_ ?_
 ·refine Ent.of [] ?_ ?_ rfl rfl;(repeat' (first |exact True.intro |refine ⟨⟨AA _, rfl⟩, ?_⟩|fail))
 ·intro i ⟨h0, h1, h2⟩;(repeat' (first |refine qv ?_ |apply qn |apply qs |apply qr |(refine AD rfl ?_ ?_ <;> intro _ <;> try (exfalso; omega)) |apply qb |apply qk |apply qx |apply qt |(refine Aw rfl rfl rfl rfl rfl rfl rfl rfl (by omega) (by omega) ?_; intro _ _)|fail))
  ·refine RetOk.of rfl (AV.Le.int ?_);rw [← h2, cmpL_long (by omega) (by omega)]
  ·rename_i hi x hx hj y hy;rw [Int.toNat_natCast] at hx hy;have hd := cmpL_drop hx hy;refine qc (cmpCompare_ok x y) ?_;(repeat' (first |refine qv ?_ |apply qn |apply qs |apply qr |refine qw ?_ |(refine Aa rfl ?_ ?_ <;> intro _ <;> try (exfalso; omega)) |apply qk |apply qt))
   ·rename_i hz;refine RetOk.of rfl (AV.Le.int ?_);rw [← h2, hd, if_neg hz]
   ·rename_i hz;rw [if_pos hz] at hd;refine LoopEnd.of (i + 1) ⟨by omega, by omega, by rw [← hd, h2]⟩ (by omega) ?_;refine Ent.of [] ?_ ?_ rfl rfl;(repeat' (first |exact True.intro |refine ⟨⟨AA _, rfl⟩, ?_⟩|fail))
  ·refine RetOk.of rfl (AV.Le.int ?_);rw [← h2, cmpL_short (by omega) (by omega)]
  ·refine RetOk.of rfl (AV.Le.int ?_);rw [← h2, cmpL_end (by omega) (by omega)]
end Go.Proofs.YtmmfloplhopioaaGreat
namespace Go.AL
def ordI (a b : List Int) : Int := if sumL b - sumL a = 0 then cmpL b a else sumL b - sumL a
end Go.AL
namespace Go.Proofs.YtmmfloplhopioaaGreat
open Go.AL
theorem order_ok (a b : TZ) (ha : EOk a.e) (hb : EOk b.e) (hal : a.e.length ≤ 100000) (hbl : b.e.length ≤ 100000) : PureFn Tryz.prog 203 [aT a, aT b] (aN (ordI a.e b.e)) := by
 refine AC Tryz.func203 rfl Tryz.ntmps203 rfl rfl ?_;have ba := CJ ha;have bb := CJ hb;(repeat' (first |refine qv ?_ |apply qn |apply qs |apply qr |refine qe ?_|fail));refine qc (EE b hb hbl) ?_;(repeat' (first |refine qv ?_|fail));refine qc (EE a ha hal) ?_;(repeat' (first |refine qv ?_ |apply qn |refine Fl.nil (fun _ => by kernel_rfl) ?_ |apply qs |apply qr |refine qw ?_ |(refine Aa rfl ?_ ?_ <;> intro _ <;> try (exfalso; omega)) |apply qk |apply qt))
 ·rename_i hz;refine RetOk.of rfl (AV.Le.int ?_);unfold ordI; rw [if_neg hz]
 ·rename_i hz;refine qc (slicesCompare_ok b.e a.e hbl hal) ?_;(repeat' (first |refine qv ?_ |apply qn |apply qt));refine RetOk.of rfl (AV.Le.int ?_);unfold ordI; rw [if_pos hz]
end Go.Proofs.YtmmfloplhopioaaGreat
namespace Go.AL
structure OkT (vars : Int) (t : TZ) : Prop where
  coef : OkZ t.c
  nz : t.c.w.length ≠ 0
  len : (t.e.length : Int) = vars
  exps : EOk t.e
  deg : sumL t.e ≤ 120
structure OkP (p : PZ) : Prop where
  v0 : 0 ≤ p.vars
  v1 : p.vars ≤ 32
  len : p.terms.length ≤ 3000
  terms : ∀ t ∈ p.terms, OkT p.vars t
  ord : ∀ (i : Nat) (a b : TZ), p.terms[i]? = some a → p.terms[i + 1]? = some b → ordI a.e b.e < 0
def WT (t : TZ) : Prop := WOk t.c.w
def WP (p : PZ) : Prop := ∀ t ∈ p.terms, WT t
end Go.AL
namespace Go.Proofs.YtmmfloplhopioaaGreat
open Go.AL
theorem B6 (p : PZ) (hw : WP p) (b : Bool) (hb : b = true ↔ OkP p) : PureFn Tryz.prog 176 [aP p] (aB b) := by
 refine AC Tryz.func176 rfl Tryz.ntmps176 rfl rfl ?_
 have hfalse : ¬ OkP p → false = b := fun h => by cases b with | false => rfl | true => exact absurd (hb.1 rfl) h
 (repeat' (first |refine qv ?_ |apply qn |apply qs |apply qr |refine qe ?_ |refine Fl.skip rfl rfl ?_ |refine AM rfl ?_ |(refine AD rfl ?_ ?_ <;> intro _ <;> try (exfalso; omega)) |apply qb |apply qk |apply qt |(refine AH rfl rfl ?_ ?_ <;> intro _ <;> try (exfalso; omega))))
 ·rename_i h; exact RetOk.of rfl (AV.Le.bool (hfalse fun k => by have := k.v0; omega))
 ·rename_i h; exact RetOk.of rfl (AV.Le.bool (hfalse fun k => by have := k.v1; omega))
 ·rename_i h; exact RetOk.of rfl (AV.Le.bool (hfalse fun k => by have := k.len; omega))
 rename_i hv0 hv1 hlen;refine AWP.loop (G := Nat) (fun i => i ≤ p.terms.length ∧ (∀ t ∈ p.terms.take i, OkT p.vars t) ∧ ∀ (j : Nat) (a b : TZ), j + 1 < i → p.terms[j]? = some a → p.terms[j + 1]? = some b → ordI a.e b.e < 0)
  (fun i => AU [] [(1, .ptr 1 0), (22, .sl 3 eT p.terms), (23, aN p.terms.length), (24, aN i)] [(1, .cells (eP p) 105)]) (fun i => p.terms.length - i) 0 ⟨by omega, by simp, fun j a b h => by omega⟩ ?_ ?_
 ·refine Ent.of [] ?_ ?_ rfl rfl;(repeat' (first |exact True.intro |refine ⟨⟨AA _, rfl⟩, ?_⟩ |refine ⟨⟨⟨_, rfl, BLe.cells (AB _)⟩, rfl⟩, ?_⟩|fail))
 ·intro i ⟨k0, k1, k2⟩;(repeat' (first |refine qv ?_ |apply qn |apply qs |apply qr |refine qe ?_ |(refine AD rfl ?_ ?_ <;> intro _ <;> try (exfalso; omega)) |apply qb |apply qk |apply qx |apply qt |(refine Aw rfl rfl rfl rfl rfl rfl rfl rfl (by omega) (by omega) ?_; intro _ _)|fail))
  ·rename_i hi t ht;rw [Int.toNat_natCast] at ht;have htm := List.mem_of_getElem? ht;have hall : ¬ OkT p.vars t → ¬ OkP p := fun h k => h (k.terms t htm);refine qc (Valid_ok t.c (hw t htm)) ?_;(repeat' (first |refine qv ?_ |apply qn |apply qs |apply qr |refine Fl.skip rfl rfl ?_ |refine AM rfl ?_ |apply qt |(refine DG rfl rfl ?_ ?_ <;> intro _ <;> try (exfalso; omega))))
   ·rename_i h; exact RetOk.of rfl (AV.Le.bool (hfalse (hall fun k => h k.coef)))
   refine qc (Zero_ok t.c) ?_;(repeat' (first |refine qv ?_ |apply qn |apply qs |apply qr |refine Fl.skip rfl rfl ?_ |refine AM rfl ?_ |(refine Aa rfl ?_ ?_ <;> intro _ <;> try (exfalso; omega)) |apply qb |apply qk |apply qt |(refine AH rfl rfl ?_ ?_ <;> intro _ <;> try (exfalso; omega))))
   ·rename_i h; exact RetOk.of rfl (AV.Le.bool (hfalse (hall fun k => k.nz h)))
   ·rename_i h; exact RetOk.of rfl (AV.Le.bool (hfalse (hall fun k => h k.len)))
   rename_i hc hz hl;refine AWP.loop (G := Nat) (fun j => j ≤ t.e.length ∧ EOk (t.e.take j))
    (fun j => AU [] [(1, .ptr 1 0), (3, aN i), (4, .ptr 4 0), (22, .sl 3 eT p.terms), (23, aN p.terms.length), (24, aN i), (47, aI t.e), (48, aN t.e.length), (49, aN j)] [(1, .cells (eP p) 105), (4, .cells (eT t) 158)]) (fun j => t.e.length - j) 0 ⟨by omega, fun e he => by simp at he⟩ ?_ ?_
   ·refine Ent.of [] ?_ ?_ rfl rfl;(repeat' (first |exact True.intro |refine ⟨⟨AA _, rfl⟩, ?_⟩ |refine ⟨⟨⟨_, rfl, BLe.cells (AB _)⟩, rfl⟩, ?_⟩|fail))
   ·intro j ⟨m0, m1⟩;(repeat' (first |refine qv ?_ |apply qn |apply qs |apply qr |refine qw ?_ |refine Fl.skip rfl rfl ?_ |refine AM rfl ?_ |(refine AD rfl ?_ ?_ <;> intro _ <;> try (exfalso; omega)) |apply qb |apply qk |apply qx |apply qt |(refine Aw rfl rfl rfl rfl rfl rfl rfl rfl (by omega) (by omega) ?_; intro _ _) |(refine AH rfl rfl ?_ ?_ <;> intro _ <;> try (exfalso; omega))))
    ·rename_i hj e he h0;rw [Int.toNat_natCast] at he;exact RetOk.of rfl (AV.Le.bool (hfalse (hall fun k => by have := k.exps.get he; omega)))
    ·rename_i hj e he h0 h1;rw [Int.toNat_natCast] at he;exact RetOk.of rfl (AV.Le.bool (hfalse (hall fun k => by have := k.exps.get he; omega)))
    ·rename_i hj e he h0 h1;rw [Int.toNat_natCast] at he;refine LoopEnd.of (j + 1) ⟨by omega, ?_⟩ (by omega) ?_
     ·rw [Ad he];intro x hx;rcases List.mem_append.1 hx with hx | hx
      ·exact m1 x hx
      ·simp only [List.mem_singleton] at hx; subst hx; omega
     ·refine Ent.of [] ?_ ?_ rfl rfl;(repeat' (first |exact True.intro |refine ⟨⟨AA _, rfl⟩, ?_⟩ |refine ⟨⟨⟨_, rfl, BLe.cells (AB _)⟩, rfl⟩, ?_⟩|fail))
    ·rename_i hj
     have m2 : EOk t.e := by rwa [show j = t.e.length by omega, List.take_length] at m1
     have hb2 := CJ m2;refine qc (EE t m2 (by omega)) ?_;(repeat' (first |refine qv ?_ |apply qn |refine Fl.nil (fun _ => by kernel_rfl) ?_ |apply qs |apply qr |refine qw ?_ |refine Fl.skip rfl rfl ?_ |refine AM rfl ?_ |refine AF rfl ?_ |apply qk |apply qt |(refine Aw rfl rfl rfl rfl rfl rfl rfl rfl (by omega) (by omega) ?_; intro _ _) |(refine AH rfl rfl ?_ ?_ <;> intro _ <;> try (exfalso; omega))))
     ·rename_i h; exact RetOk.of rfl (AV.Le.bool (hfalse (hall fun k => by have := k.deg; omega)))
     ·rename_i hd hi0 a ha
      have ha : p.terms[i - 1]? = some a := by rwa [show ((i : Int) - 1).toNat = i - 1 by omega] at ha
      have hoa := k1 a (List.mem_of_getElem? (i := i - 1) (by rw [List.getElem?_take_of_lt (by omega)]; exact ha));refine qc (order_ok a t hoa.exps m2 (by have := hoa.len; omega) (by omega)) ?_;(repeat' (first |refine qv ?_ |apply qn |refine Fl.nil (fun _ => by kernel_rfl) ?_ |apply qs |apply qr |refine qw ?_ |(refine AD rfl ?_ ?_ <;> intro _ <;> try (exfalso; omega)) |apply qk |apply qt))
      ·rename_i ho;refine RetOk.of rfl (AV.Le.bool (hfalse fun k => ?_));have := k.ord (i - 1) a t ha (by rwa [show i - 1 + 1 = i by omega]);omega
      ·rename_i ho;refine LoopEnd.of (i + 1) ⟨by omega, BW ht k1 ⟨hc, hz, hl, m2, by omega⟩, fun j a' b' hj h1 h2 => ?_⟩ (by omega) ?_
       ·by_cases hji : j + 1 < i
        ·exact k2 j a' b' hji h1 h2
        ·have hj' : j = i - 1 := by omega
         subst hj';rw [ha] at h1; cases h1;rw [show i - 1 + 1 = i by omega, ht] at h2; cases h2;omega
       ·refine Ent.of [] ?_ ?_ rfl rfl;(repeat' (first |exact True.intro |refine ⟨⟨AA _, rfl⟩, ?_⟩ |refine ⟨⟨⟨_, rfl, BLe.cells (AB _)⟩, rfl⟩, ?_⟩|fail))
     ·rename_i hd hi0;refine LoopEnd.of (i + 1) ⟨by omega, BW ht k1 ⟨hc, hz, hl, m2, by omega⟩, fun j a' b' hj h1 h2 => by omega⟩ (by omega) ?_;refine Ent.of [] ?_ ?_ rfl rfl;(repeat' (first |exact True.intro |refine ⟨⟨AA _, rfl⟩, ?_⟩ |refine ⟨⟨⟨_, rfl, BLe.cells (AB _)⟩, rfl⟩, ?_⟩|fail))
  ·rename_i hi;refine RetOk.of rfl (AV.Le.bool (Eq.symm (hb.2 ⟨by omega, by omega, by omega, fun t ht => k1 t ?_, fun j a b ha hb => k2 j a b ?_ ha hb⟩)))
   ·rwa [show i = p.terms.length by omega, List.take_length]
   ·have := (List.getElem?_eq_some_iff.1 hb).1;omega
end Go.Proofs.YtmmfloplhopioaaGreat
namespace Go.AL
def AW : List Int → List Int → Int
  | x :: X, e :: E => x ^ e.toNat * AW X E
  | _, _ => 1
def tv (X : List Int) (t : TZ) : Int := zval t.c * AW X t.e
theorem prodE_snoc : ∀ {X E : List Int} {i : Nat} {x e : Int}, X[i]? = some x → E[i]? = some e → AW (X.take (i + 1)) (E.take (i + 1)) = AW (X.take i) (E.take i) * x ^ e.toNat
 | [], _, _, _, _, h, _ => by simp at h
 | _ :: _, [], _, _, _, _, h => by simp at h
 | y :: X, d :: E, 0, x, e, h1, h2 => by
  simp at h1 h2; subst h1 h2; simp [AW]
 | y :: X, d :: E, i + 1, x, e, h1, h2 => by
  simp only [List.take_succ_cons, AW];rw [prodE_snoc (X := X) (E := E) (i := i) (by simpa using h1) (by simpa using h2), Int.mul_assoc]
theorem prodE_zero : ∀ {X E : List Int} {i : Nat} {e : Int}, X[i]? = some 0 → E[i]? = some e → 0 < e → AW X E = 0
 | [], _, _, _, h, _, _ => by simp at h
 | _ :: _, [], _, _, _, h, _ => by simp at h
 | y :: X, d :: E, 0, e, h1, h2, h0 => by
  simp at h1 h2; subst h1 h2;simp only [AW];rw [Int.zero_pow (by omega)]; simp
 | y :: X, d :: E, i + 1, e, h1, h2, h0 => by
  simp only [AW];rw [prodE_zero (X := X) (E := E) (i := i) (by simpa using h1) (by simpa using h2) h0]; simp
theorem natAbs_mul_ge {a b : Int} (hb : b ≠ 0) : a.natAbs ≤ (a * b).natAbs := by
 rw [Int.natAbs_mul];exact Nat.le_mul_of_pos_right _ (by omega)
theorem Fit.le {a b : Int} (h : Fit b) (hl : a.natAbs ≤ b.natAbs) : Fit a := Fit.mk (by have := h.lt; omega)
def NoZ (X E : List Int) : Prop := ∀ (i : Nat) (x e : Int), X[i]? = some x → E[i]? = some e → 0 < e → x ≠ 0
theorem NoZ.tail {x e : Int} {X E : List Int} (h : NoZ (x :: X) (e :: E)) : NoZ X E := fun i a b h1 h2 => h (i + 1) a b (by simpa using h1) (by simpa using h2)
theorem pow_ne {x e : Int} (h : 0 < e → x ≠ 0) : x ^ e.toNat ≠ 0 := by
 by_cases he : 0 < e
 ·exact Int.pow_ne_zero (h he)
 ·rw [show e.toNat = 0 by omega]; simp
theorem prodE_ne : ∀ {X E : List Int}, NoZ X E → AW X E ≠ 0
 | [], _, _ => by simp [AW]
 | _ :: _, [], _ => by simp [AW]
 | x :: X, e :: E, h => by
  simp only [AW];exact Int.mul_ne_zero (pow_ne fun he => h 0 x e (by simp) (by simp) he) (prodE_ne h.tail)
theorem prodE_take_le : ∀ {X E : List Int} (i : Nat), NoZ X E → (AW (X.take i) (E.take i)).natAbs ≤ (AW X E).natAbs
 | [], _, i, _ => by simp [AW]
 | _ :: _, [], i, _ => by simp [AW]
 | x :: X, e :: E, 0, h => by
  have := prodE_ne h;simp only [List.take_zero];have : (AW [] []).natAbs = 1 := rfl;omega
 | x :: X, e :: E, i + 1, h => by
  simp only [List.take_succ_cons, AW];rw [Int.natAbs_mul, Int.natAbs_mul];exact Nat.mul_le_mul_left _ (prodE_take_le i h.tail)
end Go.AL
namespace Go.Proofs.YtmmfloplhopioaaGreat
open Go.AL
theorem ZeroX_ok (x : Int) : PureFn Tryz.prog 201 [aX x] (aB (decide (x = 0))) := by
 have h := Zero_ok (zOf x)
 have e : decide ((zOf x).w.length = 0) = decide (x = 0) := by
  rw [decide_eq_decide];show (toW x.natAbs).length = 0 ↔ x = 0;have := A8 (z := x.natAbs) (by omega);rw [List.length_eq_zero_iff, this]; omega
 rwa [e] at h
end Go.Proofs.YtmmfloplhopioaaGreat
namespace Go.AL
theorem NoZ.snoc {X E : List Int} {i : Nat} {x e : Int} (h : NoZ (X.take i) (E.take i)) (hx : X[i]? = some x) (he : E[i]? = some e) (h0 : 0 < e → x ≠ 0) : NoZ (X.take (i + 1)) (E.take (i + 1)) := by
 intro j a b h1 h2 h3
 have hj : j < i + 1 := by
  have := (List.getElem?_eq_some_iff.1 h1).1;rw [List.length_take] at this; omega
 rw [List.getElem?_take_of_lt hj] at h1 h2;by_cases hji : j = i
 ·subst hji;rw [hx] at h1; rw [he] at h2; cases h1; cases h2; exact h0 h3
 ·exact h j a b (by rw [List.getElem?_take_of_lt (by omega)]; exact h1) (by rw [List.getElem?_take_of_lt (by omega)]; exact h2) h3
theorem of_take {α : Type} {l : List α} {n i : Nat} {x : α} (h : (l.take n)[i]? = some x) : l[i]? = some x := by
 rw [List.getElem?_take] at h;split at h
 ·exact h
 ·cases h
theorem leZ {z : Z} {x : Int} {σ : List (Id × Id)} (h : z = zOf x) : LeL (eZ z) (renL (renI σ) (eX x)) := by subst h; exact AB _
theorem leX {x y : Int} {σ : List (Id × Id)} (h : x = y) : LeL (eX x) (renL (renI σ) (eX y)) := by subst h; exact AB _
end Go.AL
namespace Go.Proofs.YtmmfloplhopioaaGreat
open Go.AL
set_option maxHeartbeats 1000000 in
theorem term_io (t : TZ) (X : List Int) (hw : WT t) (hc : OkZ t.c) (hnz : t.c.w.length ≠ 0) (he : EOk t.e) (hl : t.e.length = X.length) (hll : t.e.length ≤ 100000) (hX : ∀ x ∈ X, Fit x) (res : Res) (hr1 : Fit (tv X t) → res = .ret (aX (tv X t))) (hr2 : ¬ Fit (tv X t) → res = .thr (BF 4)) :
  IoFn Tryz.prog 205 [aT t, .sl 2 eX X] [] res [] := by
 refine AG Tryz.func205 rfl Tryz.ntmps205 rfl rfl rfl ?_;obtain ⟨hz, hf⟩ := okZ_eq hw hc;(repeat' (first |refine qv ?_ |apply qn |apply qs |apply qr |refine qe ?_ |apply qb));refine AWP.loop (G := Nat) (fun i => i ≤ t.e.length ∧ NoZ (X.take i) (t.e.take i)) (fun i => AU [] [(1, .sl 2 eX X), (2, .ptr 2 0), (4, .ptr 4 0), (11, aI t.e), (12, aN t.e.length), (13, aN i)] [(2, .cells (eT t) 158), (4, .cells [aB false, .v (.slice none 0 0)] 48)]) (fun i => t.e.length - i) 0 ⟨by omega, fun i x e h => by simp at h⟩ ?_ ?_
 ·refine Ent.of [] ?_ ?_ rfl rfl;(repeat' (first |exact True.intro |refine ⟨⟨AA _, rfl⟩, ?_⟩ |refine ⟨⟨⟨_, rfl, BLe.cells (AB _)⟩, rfl⟩, ?_⟩|fail))
 ·intro i ⟨k0, k1⟩;(repeat' (first |refine qv ?_ |apply qn |apply qs |apply qr |refine qw ?_ |refine qe ?_ |refine Fl.skip rfl rfl ?_ |refine AF rfl ?_ |(refine AD rfl ?_ ?_ <;> intro _ <;> try (exfalso; omega)) |apply qb |apply qk |apply qx |(refine Aw rfl rfl rfl rfl rfl rfl rfl rfl (by omega) (by omega) ?_; intro _ _) |(refine AH rfl rfl ?_ ?_ <;> intro _ <;> try (exfalso; omega))))
  ·rename_i hi e hei h0 x hx;rw [Int.toNat_natCast] at hei hx;refine qc (ZeroX_ok x) ?_;(repeat' (first |refine qv ?_ |apply qn |apply qs |apply qr |refine qw ?_ |refine qe ?_ |(refine AD rfl ?_ ?_ <;> intro _ <;> try (exfalso; omega)) |apply qk |apply qt))
   ·rename_i hx0;subst hx0
    have hv : tv X t = 0 := by unfold tv; rw [prodE_zero hx hei h0]; simp
    have e1 := hr1 (by rw [hv]; exact Fit.zero);subst e1;rw [hv];exact ⟨⟨[], _, _, AK _ _ _, rfl, DA, rfl, trivial, rfl, rfl⟩⟩
   ·rename_i hx0;refine LoopEnd.of (i + 1) ⟨by omega, k1.snoc hx hei fun _ => hx0⟩ (by omega) ?_;refine Ent.of [] ?_ ?_ rfl rfl;(repeat' (first |exact True.intro |refine ⟨⟨AA _, rfl⟩, ?_⟩ |refine ⟨⟨⟨_, rfl, BLe.cells (AB _)⟩, rfl⟩, ?_⟩|fail))
  ·rename_i hi e hei h0;rw [Int.toNat_natCast] at hei;refine LoopEnd.of (i + 1) ⟨by omega, ?_⟩ (by omega) ?_
   ·exact k1.snoc (x := X[i]'(by omega)) (List.getElem?_eq_getElem _) hei fun h => by omega
   ·refine Ent.of [] ?_ ?_ rfl rfl;(repeat' (first |exact True.intro |refine ⟨⟨AA _, rfl⟩, ?_⟩ |refine ⟨⟨⟨_, rfl, BLe.cells (AB _)⟩, rfl⟩, ?_⟩|fail))
  ·rename_i hi
   have hnz1 : NoZ X t.e := by
    have h1 : X.take i = X := List.take_of_length_le (by omega);have h2 : t.e.take i = t.e := List.take_of_length_le (by omega);rwa [h1, h2] at k1
   clear hi k1 k0
   have hcv : zval t.c ≠ 0 := fun h => by
    rw [h] at hz;exact hnz (by rw [hz]; show (toW ((0 : Int).natAbs)).length = 0; rw [show (((0 : Int).natAbs : Nat) : Int) = 0 from rfl, toW_zero]; rfl)
   refine AWP.loop (G := Nat) (fun i => i ≤ t.e.length ∧ Fit (zval t.c * AW (X.take i) (t.e.take i))) (fun i => AU [] [(1, .sl 2 eX X), (2, .ptr 2 0), (4, .ptr 4 0), (7, .ptr 7 0), (32, aI t.e), (33, aN t.e.length), (34, aN i)] [(2, .cells (eT t) 158), (4, .cells [aB false, .v (.slice none 0 0)] 48), (7, .cells (eX (zval t.c * AW (X.take i) (t.e.take i))) 48)]) (fun i => t.e.length - i) 0 ⟨by omega, by simpa [AW] using hf⟩ ?_ ?_
   ·refine Ent.of [] ?_ ?_ rfl rfl;(repeat' (first |exact True.intro |refine ⟨⟨AA _, rfl⟩, ?_⟩ |refine ⟨⟨⟨_, rfl, BLe.cells (AB _)⟩, rfl⟩, ?_⟩ |refine ⟨⟨⟨_, rfl, BLe.cells ?_⟩, rfl⟩, ?_⟩|fail));exact leZ (by simp only [List.take_zero, AW, Int.mul_one]; exact hz)
   ·clear i; intro i ⟨k0, k1⟩;(repeat' (first |refine qv ?_ |apply qn |apply qs |apply qr |refine qw ?_ |refine qe ?_ |(refine AD rfl ?_ ?_ <;> intro _ <;> try (exfalso; omega)) |apply qb |apply qk |apply qx |apply qt |(refine Aw rfl rfl rfl rfl rfl rfl rfl rfl (by omega) (by omega) ?_; intro _ _)|fail))
    ·rename_i hi e hei h0 x hx;rw [Int.toNat_natCast] at hei hx;have hstep := prodE_snoc hx hei;have hxf := hX x (List.mem_of_getElem? hx);have hne : AW (X.take i) (t.e.take i) ≠ 0 := prodE_ne fun j a b h1 h2 => hnz1 j a b (of_take h1) (of_take h2);have hpw : x ^ e.toNat ≠ 0 := pow_ne fun h => hnz1 i x e hx hei h;have hle := prodE_take_le (i + 1) hnz1
     have hab : zval t.c * AW (X.take i) (t.e.take i) * x ^ e.toNat = zval t.c * AW (X.take (i + 1)) (t.e.take (i + 1)) := by rw [hstep, Int.mul_assoc]
     have hfin : Fit (tv X t) → Fit (zval t.c * AW (X.take (i + 1)) (t.e.take (i + 1))) := fun h => h.le (by unfold tv; rw [Int.natAbs_mul, Int.natAbs_mul]; exact Nat.mul_le_mul_left _ hle);by_cases hp : Fit (x ^ e.toNat)
     ·by_cases hm : Fit (zval t.c * AW (X.take i) (t.e.take i) * x ^ e.toNat)
      ·refine qc (xPower_ret x e hxf (by omega) (by have := he.get hei; omega) hp) ?_;refine qc (xMul_ret _ _ k1 hp hm) ?_;(repeat' (first |refine qv ?_ |apply qn |refine Fl.nil (fun _ => by kernel_rfl) ?_ |apply qr |refine qw ?_ |refine qe ?_|fail));refine LoopEnd.of (i + 1) ⟨by omega, by rw [← hab]; exact hm⟩ (by omega) ?_;refine Ent.of [] ?_ ?_ rfl rfl;(repeat' (first |exact True.intro |refine ⟨⟨AA _, rfl⟩, ?_⟩ |refine ⟨⟨⟨_, rfl, BLe.cells (AB _)⟩, rfl⟩, ?_⟩ |refine ⟨⟨⟨_, rfl, BLe.cells ?_⟩, rfl⟩, ?_⟩|fail));exact leX hab
      ·have e1 := hr2 fun h => hm (by rw [hab]; exact hfin h);subst e1;refine qc (xPower_ret x e hxf (by omega) (by have := he.get hei; omega) hp) ?_;exact Ax rfl [] (xMul_thr _ _ k1 hp hm) rfl (AB _) rfl trivial rfl (fun _ => by kernel_rfl) (fun _ => rfl)
     ·have e1 := hr2 fun h => hp ((hfin h).le (by rw [← hab, Int.mul_comm]; exact natAbs_mul_ge (Int.mul_ne_zero hcv hne)));subst e1;exact Ax rfl [] (xPower_thr x e hxf (by omega) (by have := he.get hei; omega) hp) rfl (AB _) rfl trivial rfl (fun _ => by kernel_rfl) (fun _ => rfl)
    ·rename_i hi e hei h0;rw [Int.toNat_natCast] at hei;have hx : X[i]? = some (X[i]'(by omega)) := List.getElem?_eq_getElem _
     have hab : zval t.c * AW (X.take i) (t.e.take i) = zval t.c * AW (X.take (i + 1)) (t.e.take (i + 1)) := by rw [prodE_snoc hx hei, show e.toNat = 0 by omega]; simp
     refine LoopEnd.of (i + 1) ⟨by omega, by rw [← hab]; exact k1⟩ (by omega) ?_;refine Ent.of [] ?_ ?_ rfl rfl;(repeat' (first |exact True.intro |refine ⟨⟨AA _, rfl⟩, ?_⟩ |refine ⟨⟨⟨_, rfl, BLe.cells (AB _)⟩, rfl⟩, ?_⟩ |refine ⟨⟨⟨_, rfl, BLe.cells ?_⟩, rfl⟩, ?_⟩|fail));exact leX hab
    ·rename_i hi
     have hab : zval t.c * AW (X.take i) (t.e.take i) = tv X t := by
      have h1 : X.take i = X := List.take_of_length_le (by omega);have h2 : t.e.take i = t.e := List.take_of_length_le (by omega);rw [h1, h2]; rfl
     rw [hab] at k1;have e1 := hr1 k1;subst e1;exact ⟨⟨[], _, _, AK _ _ _, rfl, AV.Le.agg (leX hab), rfl, trivial, rfl, rfl⟩⟩
end Go.Proofs.YtmmfloplhopioaaGreat
namespace Go.AL
theorem Dj : ∀ {l : List Int}, (∀ x ∈ l, 0 ≤ x) → 0 ≤ sumL l
 | [], _ => by simp [sumL]
 | x :: l, h => by have := Dj (l := l) fun y hy => h y (by simp [hy]); have := h x (by simp); simp only [sumL]; omega
theorem sumL_nonpos : ∀ {l : List Int}, (∀ x ∈ l, x ≤ 0) → sumL l ≤ 0
 | [], _ => by simp [sumL]
 | x :: l, h => by have := sumL_nonpos (l := l) fun y hy => h y (by simp [hy]); have := h x (by simp); simp only [sumL]; omega
theorem sumL_take_add (l : List Int) (i : Nat) : sumL l = sumL (l.take i) + sumL (l.drop i) := by rw [← CK, List.take_append_drop]
theorem sumL_take_le {l : List Int} (h : ∀ x ∈ l, 0 ≤ x) (i : Nat) : 0 ≤ sumL (l.take i) ∧ sumL (l.take i) ≤ sumL l := by
 have h1 := Dj (l := l.take i) fun x hx => h x (List.mem_of_mem_take hx);have h2 := Dj (l := l.drop i) fun x hx => h x (List.mem_of_mem_drop hx);have := sumL_take_add l i;omega
theorem sumL_take_ge {l : List Int} (h : ∀ x ∈ l, x ≤ 0) (i : Nat) : sumL (l.take i) ≤ 0 ∧ sumL l ≤ sumL (l.take i) := by
 have h1 := sumL_nonpos (l := l.take i) fun x hx => h x (List.mem_of_mem_take hx);have h2 := sumL_nonpos (l := l.drop i) fun x hx => h x (List.mem_of_mem_drop hx);have := sumL_take_add l i;omega
def plI (v : Int) : Int := if v < 0 then 0 else v
def opI (v : Int) : Int := if v < 0 then v else 0
def PS (X : List Int) (l : List TZ) : Int := sumL (l.map fun t => plI (tv X t))
def OS (X : List Int) (l : List TZ) : Int := sumL (l.map fun t => opI (tv X t))
def pv (X : List Int) (p : PZ) : Int := PS X p.terms + OS X p.terms
def EvOk (X : List Int) (p : PZ) : Prop := Fit (PS X p.terms) ∧ Fit (OS X p.terms)
theorem pl_nonneg (X : List Int) (l : List TZ) : ∀ x ∈ l.map (fun t => plI (tv X t)), 0 ≤ x := fun x hx => by
 obtain ⟨t, _, rfl⟩ := List.mem_map.1 hx;show 0 ≤ plI (tv X t);unfold plI; split <;> omega
theorem op_nonpos (X : List Int) (l : List TZ) : ∀ x ∈ l.map (fun t => opI (tv X t)), x ≤ 0 := fun x hx => by
 obtain ⟨t, _, rfl⟩ := List.mem_map.1 hx;show opI (tv X t) ≤ 0;unfold opI; split <;> omega
theorem PS_take (X : List Int) (l : List TZ) (i : Nat) : 0 ≤ PS X (l.take i) ∧ PS X (l.take i) ≤ PS X l := by
 unfold PS; rw [List.map_take]; exact sumL_take_le (pl_nonneg X l) i
theorem OS_take (X : List Int) (l : List TZ) (i : Nat) : OS X (l.take i) ≤ 0 ∧ OS X l ≤ OS X (l.take i) := by
 unfold OS; rw [List.map_take]; exact sumL_take_ge (op_nonpos X l) i
theorem PS_succ {X : List Int} {l : List TZ} {i : Nat} {t : TZ} (h : l[i]? = some t) : PS X (l.take (i + 1)) = PS X (l.take i) + plI (tv X t) := by
 unfold PS; rw [List.map_take, List.map_take]; exact DL (by rw [List.getElem?_map, h]; rfl)
theorem OS_succ {X : List Int} {l : List TZ} {i : Nat} {t : TZ} (h : l[i]? = some t) : OS X (l.take (i + 1)) = OS X (l.take i) + opI (tv X t) := by
 unfold OS; rw [List.map_take, List.map_take]; exact DL (by rw [List.getElem?_map, h]; rfl)
theorem fit_sum {a b : Int} (ha : Fit a) (hb : Fit b) (h0 : 0 ≤ a) (h1 : b ≤ 0) : Fit (a + b) := by
 by_cases h : 0 ≤ a + b
 ·exact ha.le (by omega)
 ·exact hb.le (by omega)
theorem DW {x : Int} {σ : List (Id × Id)} (h : x = 0) : LeL [aB false, .v (.slice none 0 0)] (renL (renI σ) (eX x)) := by
 subst h;exact LeL.cons (AV.Le.bool rfl) (LeL.cons (by show (AV.v (.slice none 0 0)).Le (aW (toW ((0 : Int).natAbs))); rw [show ((Int.natAbs 0 : Nat) : Int) = 0 from rfl, toW_zero]; exact AV.Le.nil 1 eW) LeL.nil)
theorem plI_neg {v : Int} (h : v < 0) : plI v = 0 := if_pos h
theorem plI_pos {v : Int} (h : ¬ v < 0) : plI v = v := if_neg h
theorem opI_neg {v : Int} (h : v < 0) : opI v = v := if_pos h
theorem opI_pos {v : Int} (h : ¬ v < 0) : opI v = 0 := if_neg h
end Go.AL
namespace Go.Proofs.YtmmfloplhopioaaGreat
open Go.AL
theorem Value_io (p : PZ) (X : List Int) (hw : WP p) (hp : OkP p) (hl : (X.length : Int) = p.vars) (hX : ∀ x ∈ X, Fit x) (res : Res) (hr1 : EvOk X p → res = .ret (aX (pv X p))) (hr2 : ¬ EvOk X p → res = .thr (BF 4)) :
  IoFn Tryz.prog 180 [aP p, .sl 2 eX X] [] res [] := by
 refine AG Tryz.func180 rfl Tryz.ntmps180 rfl rfl rfl ?_;have hv0 := hp.v0;have hv1 := hp.v1;have hlen := hp.len;(repeat' (first |refine qv ?_ |apply qn |apply qs |apply qr |refine qe ?_ |apply qb));refine AWP.loop (G := Nat) (fun i => i ≤ p.terms.length ∧ Fit (PS X (p.terms.take i)) ∧ Fit (OS X (p.terms.take i))) (fun i => AU [] [(1, .sl 2 eX X), (4, .ptr 4 0), (5, .ptr 5 0), (6, .ptr 6 0), (11, .sl 3 eT p.terms), (12, aN p.terms.length), (13, aN i)] [(4, .cells [aB false, .v (.slice none 0 0)] 48), (5, .cells (eX (PS X (p.terms.take i))) 48), (6, .cells (eX (OS X (p.terms.take i))) 48)]) (fun i => p.terms.length - i) 0 ⟨by omega, by simp [PS, sumL, Fit.zero], by simp [OS, sumL, Fit.zero]⟩ ?_ ?_
 ·refine Ent.of [] ?_ ?_ rfl rfl;(repeat' (first |exact True.intro |refine ⟨⟨AA _, rfl⟩, ?_⟩ |refine ⟨⟨⟨_, rfl, BLe.cells (AB _)⟩, rfl⟩, ?_⟩ |refine ⟨⟨⟨_, rfl, BLe.cells ?_⟩, rfl⟩, ?_⟩|fail))
  ·exact DW (by simp [PS, sumL])
  ·exact DW (by simp [OS, sumL])
 ·intro i ⟨k0, k1, k2⟩;have bp := PS_take X p.terms;have bo := OS_take X p.terms;(repeat' (first |refine qv ?_ |apply qn |apply qs |apply qr |refine qe ?_ |(refine AD rfl ?_ ?_ <;> intro _ <;> try (exfalso; omega)) |apply qb |apply qk |apply qx |(refine Aw rfl rfl rfl rfl rfl rfl rfl rfl (by omega) (by omega) ?_; intro _ _)|fail))
  ·rename_i hi t ht;rw [Int.toNat_natCast] at ht;have hot := hp.terms t (List.mem_of_getElem? ht);have hwt := hw t (List.mem_of_getElem? ht);have sp := PS_succ (X := X) ht;have so := OS_succ (X := X) ht;have hterm := fun res hr1 hr2 => term_io t X hwt hot.coef hot.nz hot.exps (by have := hot.len; omega) (by have := hot.len; omega) hX res hr1 hr2;have b1 := bp (i + 1);have b2 := bo (i + 1);have b3 := bp i;have b4 := bo i;by_cases hf : Fit (tv X t)
   ·have hcall := (hterm _ (fun _ => rfl) (fun h => absurd hf h)).toPure rfl;refine qc (hcall) ?_;(repeat' (first |refine qv ?_ |apply qn |apply qs |apply qr |refine qe ?_ |(refine AD rfl ?_ ?_ <;> intro _ <;> try (exfalso; omega))))
    ·rename_i hneg;rw [plI_neg hneg] at sp;rw [opI_neg hneg] at so;by_cases hs : Fit (OS X (p.terms.take (i + 1)))
     ·rw [so] at hs;refine qc (xAdd_ret _ _ k2 hf hs) ?_;(repeat' (first |refine qv ?_ |apply qn |apply qr |refine qw ?_ |refine qe ?_|fail));refine LoopEnd.of (i + 1) ⟨by omega, by rw [sp, Int.add_zero]; exact k1, by rw [so]; exact hs⟩ (by omega) ?_;refine Ent.of [] ?_ ?_ rfl rfl;(repeat' (first |exact True.intro |refine ⟨⟨AA _, rfl⟩, ?_⟩ |refine ⟨⟨⟨_, rfl, BLe.cells (AB _)⟩, rfl⟩, ?_⟩ |refine ⟨⟨⟨_, rfl, BLe.cells ?_⟩, rfl⟩, ?_⟩|fail))
      ·exact leX (by rw [sp, Int.add_zero])
      ·exact leX so.symm
     ·have e1 := hr2 fun h => hs (h.2.le (by omega));subst e1;rw [so] at hs;exact Ax rfl [] (xAdd_thr _ _ k2 hf hs) rfl (AB _) rfl trivial rfl (fun h => by cases h) (fun _ => rfl)
    ·rename_i hneg;rw [plI_pos hneg] at sp;rw [opI_pos hneg] at so;by_cases hs : Fit (PS X (p.terms.take (i + 1)))
     ·rw [sp] at hs;refine qc (xAdd_ret _ _ k1 hf hs) ?_;(repeat' (first |refine qv ?_ |apply qn |apply qr |refine qw ?_ |refine qe ?_|fail));refine LoopEnd.of (i + 1) ⟨by omega, by rw [sp]; exact hs, by rw [so, Int.add_zero]; exact k2⟩ (by omega) ?_;refine Ent.of [] ?_ ?_ rfl rfl;(repeat' (first |exact True.intro |refine ⟨⟨AA _, rfl⟩, ?_⟩ |refine ⟨⟨⟨_, rfl, BLe.cells (AB _)⟩, rfl⟩, ?_⟩ |refine ⟨⟨⟨_, rfl, BLe.cells ?_⟩, rfl⟩, ?_⟩|fail))
      ·exact leX sp.symm
      ·exact leX (by rw [so, Int.add_zero])
     ·have e1 := hr2 fun h => hs (h.1.le (by omega));subst e1;rw [sp] at hs;exact Ax rfl [] (xAdd_thr _ _ k1 hf hs) rfl (AB _) rfl trivial rfl (fun h => by cases h) (fun _ => rfl)
   ·have e1 := hr2 fun h => hf (by
     by_cases hneg : tv X t < 0
     ·rw [opI_neg hneg] at so;exact h.2.le (by omega)
     ·rw [plI_pos hneg] at sp
      exact h.1.le (by omega))
    subst e1;exact Ax rfl [] (hterm _ (fun h => absurd h hf) (fun _ => rfl)) rfl (AB _) rfl trivial rfl (fun h => by cases h) (fun _ => rfl)
  ·rename_i hi;have ht : p.terms.take i = p.terms := List.take_of_length_le (by omega);rw [ht] at k1 k2;have e1 := hr1 ⟨k1, k2⟩;subst e1;have b1 := bp p.terms.length;have b2 := bo p.terms.length;rw [List.take_length] at b1 b2;have hq := xAdd_ret _ _ k1 k2 (fit_sum k1 k2 b1.1 b2.1);rw [← ht] at hq;refine qc (hq) ?_;(repeat' (first |apply qn |refine qe ?_ |apply qt));exact ⟨⟨[], _, _, AK _ _ _, rfl, AV.Le.agg (leX (by rw [ht]; rfl)), rfl, trivial, rfl, rfl⟩⟩
end Go.Proofs.YtmmfloplhopioaaGreat
namespace Go.AL
def pdeg (p : PZ) : Int :=
  match p.terms with
  | [] => -1
  | t :: _ => sumL t.e
end Go.AL
namespace Go.Proofs.YtmmfloplhopioaaGreat
open Go.AL
abbrev evB (p : PZ) (X : List Int) (o : List AV) : List (AL.Id × Bx) := [(900, .cells (eP p) 105), (901, .cells [.sl 2 eX X] 33), (902, .cells o 48)]
theorem Eval1_ret (p : PZ) (X : List Int) (hw : WP p) (hp : OkP p) (hl : (X.length : Int) = p.vars) (hX : ∀ x ∈ X, Fit x) (he : EvOk X p) :
  IoFn Tryz.prog 179 [.ptr 900 0, .ptr 901 0, .ptr 902 0] (evB p X [aB false, .v (.slice none 0 0)]) (.ret (.tup [])) (evB p X (eX (pv X p))) := by
 refine AG Tryz.func179 rfl Tryz.ntmps179 rfl rfl rfl ?_;have h := (Value_io p X hw hp hl hX _ (fun _ => rfl) (fun h => absurd he h)).toPure rfl;(repeat' (first |refine qv ?_ |apply qr));refine qc (h) ?_;(repeat' (first |apply qn |refine qe ?_|fail));exact ⟨⟨[], _, _, AK _ _ _, rfl, AA _, rfl, ⟨⟨⟨_, rfl, BLe.cells (AB _)⟩, rfl⟩, ⟨⟨_, rfl, BLe.cells (AB _)⟩, rfl⟩, ⟨⟨_, rfl, BLe.cells (AB _)⟩, rfl⟩, trivial⟩, rfl, rfl⟩⟩
theorem Eval1_thr (p : PZ) (X : List Int) (hw : WP p) (hp : OkP p) (hl : (X.length : Int) = p.vars) (hX : ∀ x ∈ X, Fit x) (he : ¬ EvOk X p) :
  IoFn Tryz.prog 179 [.ptr 900 0, .ptr 901 0, .ptr 902 0] (evB p X [aB false, .v (.slice none 0 0)]) (.thr (BF 4)) (evB p X [aB false, .v (.slice none 0 0)]) := by
 refine AG Tryz.func179 rfl Tryz.ntmps179 rfl rfl rfl ?_;have h := Value_io p X hw hp hl hX _ (fun h => absurd h he) (fun _ => rfl);(repeat' (first |refine qv ?_ |apply qr));exact Ax rfl [] h rfl (AB _) rfl trivial rfl (fun h => by cases h) (fun _ => rfl)
theorem xValidX_ok (X : List Int) (hX : ∀ x ∈ X, Fit x) (hl : X.length ≤ 1000000000) : PureFn Tryz.prog 177 [.sl 2 eX X] (aB true) := by
 refine (xValid_ok (X.map zOf) (fun z hz => ?_) (by rw [List.length_map]; omega)).le (LeL.cons (Dz (enc := eZ) (f := zOf)) LeL.nil) (AV.Le.bool (decide_eq_true fun z hz => ?_))
 ·obtain ⟨x, _, rfl⟩ := List.mem_map.1 hz; exact Ak _
 ·obtain ⟨x, hx, rfl⟩ := List.mem_map.1 hz; exact Dm (hX x hx)
theorem Eval_ok (p : PZ) (X : List Int) (hw : WP p) (hp : OkP p) (hl : (X.length : Int) = p.vars) (hX : ∀ x ∈ X, Fit x) (r : AV) (hr1 : EvOk X p → r = .tup [aX (pv X p), aN 0]) (hr2 : ¬ EvOk X p → r = .tup [aX 0, aN 4]) :
  PureFn Tryz.prog 136 [aP p, .sl 2 eX X] r := by
 refine AC Tryz.func136 rfl Tryz.ntmps136 rfl rfl ?_;have hv := B6 p hw true ⟨fun _ => hp, fun _ => rfl⟩;have hxv := xValidX_ok X hX (by have := hp.v1; omega);(repeat' (first |refine qv ?_ |apply qn |apply qs |apply qr |refine qe ?_|fail));refine qc (hv) ?_;(repeat' (first |refine qv ?_|fail));refine qc (hxv) ?_;(repeat' (first |refine qv ?_ |apply qn |apply qs |apply qr |refine qe ?_ |refine AF rfl ?_ |(refine Aa rfl ?_ ?_ <;> intro _ <;> try (exfalso; omega)) |apply qk));by_cases he : EvOk X p
 ·rw [hr1 he];refine Ay rfl [(900, 2), (901, 3), (902, 6)] (Try_ret (Eval1_ret p X hw hp hl hX he)) rfl rfl (AB _) rfl ⟨⟨⟨_, rfl, BLe.cells (AB _)⟩, rfl⟩, ⟨⟨_, rfl, BLe.cells (AB _)⟩, rfl⟩, ⟨⟨_, rfl, BLe.cells (AB _)⟩, rfl⟩, trivial⟩ rfl rfl rfl rfl rfl ?_;(repeat' (first |refine qv ?_ |apply qn |apply qs |apply qr |refine qe ?_ |refine AF rfl ?_ |apply qk |apply qt));exact RetOk.of rfl (AA _)
 ·rw [hr2 he];refine Ay rfl [(900, 2), (901, 3), (902, 6)] (Try_thr (Eval1_thr p X hw hp hl hX he)) rfl rfl (AB _) rfl ⟨⟨⟨_, rfl, BLe.cells (AB _)⟩, rfl⟩, ⟨⟨_, rfl, BLe.cells (AB _)⟩, rfl⟩, ⟨⟨_, rfl, BLe.cells (AB _)⟩, rfl⟩, trivial⟩ rfl rfl rfl rfl rfl ?_;(repeat' (first |refine qv ?_ |apply qn |apply qs |apply qr |refine qe ?_ |refine AM rfl ?_ |apply qt));exact RetOk.of rfl (AV.Le.tup (LeL.cons DA (AB _)))
end Go.Proofs.YtmmfloplhopioaaGreat
namespace Go.AL
theorem BU : Fit 1 := Bb (by omega) (by omega)
def cV (e x : Int) : Int := if e = 0 ∧ Fit x then x else 0
def cE (e x : Int) : Int := if e = 0 then szErr x else e
theorem cV_fit (e x : Int) : Fit (cV e x) := by
 unfold cV;split
 ·rename_i h; exact h.2
 ·exact Fit.zero
theorem cV_ok {x : Int} (h : Fit x) : cV 0 x = x := if_pos ⟨rfl, h⟩
theorem cE_ok {x : Int} (h : Fit x) : cE 0 x = 0 := by unfold cE; rw [if_pos rfl, szErr_fit h]
theorem cE_not {x : Int} (h : ¬ Fit x) : cE 0 x = 4 := by unfold cE; rw [if_pos rfl, DC h]
theorem cV_err {e x : Int} (h : e ≠ 0) : cV e x = 0 := if_neg fun k => h k.1
theorem cV_not {e x : Int} (h : ¬ Fit x) : cV e x = 0 := if_neg fun k => h k.2
theorem cE_err {e x : Int} (h : e ≠ 0) : cE e x = e := if_neg h
def mulL (e out : Int) : List Int → Int × Int
  | [] => (out, e)
  | a :: l => mulL (cE e (out * a)) (cV e (out * a)) l
end Go.AL
namespace Go.Proofs.YtmmfloplhopioaaGreat
open Go.AL
abbrev chB (o : Option Int) (e : Int) : Bx :=
  match o with
  | none => .cells [.v (.int .i64 e)] 243
  | some a => .cells [.v (.int .i64 e), aB (decide (a < 0)), aW (toW a.natAbs), .fn 233 []] 245
theorem keep_ok (o : Option Int) (e x : Int) : IoFn Tryz.prog 236 [.ptr 900 0, aX (clip x), aN (szErr x)] [(900, chB o e)] (.ret (aX (cV e x))) [(900, chB o (cE e x))] := by
 cases o
 all_goals
  refine AG Tryz.func236 rfl Tryz.ntmps236 rfl rfl rfl ?_;(repeat' (first |refine qv ?_ |apply qn |apply qs |apply qr |refine qe ?_ |(refine AD rfl ?_ ?_ <;> intro _ <;> try (exfalso; omega)) |(refine Aa rfl ?_ ?_ <;> intro _ <;> try (exfalso; omega)) |apply qk |apply qt))
  ·rename_i h0 h1;subst h0;have hf : ¬ Fit x := fun h => h1 (szErr_eq.2 h);exact ⟨⟨[], _, _, AK _ _ _, rfl, AV.Le.agg (DW (cV_not hf)), rfl, ⟨⟨⟨_, rfl, BLe.cells (LeL.cons (AV.Le.int (by unfold cE; rw [if_pos rfl])) (AB _))⟩, rfl⟩, trivial⟩, rfl, rfl⟩⟩
  ·rename_i h0 h1;subst h0;have hf := szErr_eq.1 h1;exact ⟨⟨[], _, _, AK _ _ _, rfl, AV.Le.agg (leX (by rw [cV_ok hf, CD hf])), rfl, ⟨⟨⟨_, rfl, BLe.cells (LeL.cons (AV.Le.int (by unfold cE; rw [if_pos rfl])) (AB _))⟩, rfl⟩, trivial⟩, rfl, rfl⟩⟩
  ·rename_i h0 h1;exact ⟨⟨[], _, _, AK _ _ _, rfl, AV.Le.agg (DW (cV_err h0)), rfl, ⟨⟨⟨_, rfl, BLe.cells (LeL.cons (AV.Le.int ((cE_err h0).symm)) (AB _))⟩, rfl⟩, trivial⟩, rfl, rfl⟩⟩
theorem chAdd_ok (o : Option Int) (e x y : Int) (hx : Fit x) (hy : Fit y) : IoFn Tryz.prog 227 [.ptr 900 0, aX x, aX y] [(900, chB o e)] (.ret (aX (cV e (x + y)))) [(900, chB o (cE e (x + y)))] := by
 have hk := keep_ok o e (x + y)
 cases o
 all_goals
  refine AG Tryz.func227 rfl Tryz.ntmps227 rfl rfl rfl ?_;(repeat' (first |refine qv ?_ |apply qn |apply qs |apply qr |refine qe ?_|fail));refine qc (Add_ok x y hx hy) ?_;(repeat' (first |refine qv ?_|fail));refine qi [] hk ?_;(repeat' (first |apply qn |refine qe ?_ |apply qt));exact ⟨⟨[], _, _, AK _ _ _, rfl, AA _, rfl, ⟨⟨⟨_, rfl, BLe.cells (AB _)⟩, rfl⟩, trivial⟩, rfl, rfl⟩⟩
theorem chSub_ok (o : Option Int) (e x y : Int) (hx : Fit x) (hy : Fit y) : IoFn Tryz.prog 234 [.ptr 900 0, aX x, aX y] [(900, chB o e)] (.ret (aX (cV e (x - y)))) [(900, chB o (cE e (x - y)))] := by
 have hk := keep_ok o e (x - y)
 cases o
 all_goals
  refine AG Tryz.func234 rfl Tryz.ntmps234 rfl rfl rfl ?_;(repeat' (first |refine qv ?_ |apply qn |apply qs |apply qr |refine qe ?_|fail));refine qc (Sub_ok x y hx hy) ?_;(repeat' (first |refine qv ?_|fail));refine qi [] hk ?_;(repeat' (first |apply qn |refine qe ?_ |apply qt));exact ⟨⟨[], _, _, AK _ _ _, rfl, AA _, rfl, ⟨⟨⟨_, rfl, BLe.cells (AB _)⟩, rfl⟩, trivial⟩, rfl, rfl⟩⟩
theorem EF (o : Option Int) (e : Int) (l : List Int) (hl : ∀ x ∈ l, Fit x) (hn : l.length ≤ 1000) : IoFn Tryz.prog 228 [.ptr 900 0, .sl 2 eX l] [(900, chB o e)] (.ret (aX (mulL e 1 l).1)) [(900, chB o (mulL e 1 l).2)] := by
 have hk := keep_ok o
 cases o with
 | none =>
  refine AG Tryz.func228 rfl Tryz.ntmps228 rfl rfl rfl ?_;(repeat' (first |apply qn |apply qs |apply qr |refine qe ?_|fail));refine qc (CM 1 (by omega) (by omega)) ?_;(repeat' (first |refine qv ?_ |apply qn |apply qs |apply qr |refine qe ?_ |apply qb));refine AWP.loop (G := Nat × Int × Int) (fun g => g.1 ≤ l.length ∧ Fit g.2.1 ∧ mulL g.2.2 g.2.1 (l.drop g.1) = mulL e 1 l) (fun g => AU [900] [(0, .ptr 900 0), (4, .ptr 4 0), (5, .ptr 5 0), (9, .sl 2 eX l), (10, aN l.length), (11, aN g.1)] [(4, .cells [aB false, .v (.slice none 0 0)] 48), (5, .cells (eX g.2.1) 48), (900, chB none g.2.2)]) (fun g => l.length - g.1) (0, 1, e) ⟨by omega, BU, rfl⟩ ?_ ?_
  ·refine Ent.of [] ?_ ?_ rfl rfl;(repeat' (first |exact True.intro |refine ⟨⟨AA _, rfl⟩, ?_⟩ |refine ⟨⟨⟨_, rfl, BLe.cells (AB _)⟩, rfl⟩, ?_⟩|fail))
  ·intro ⟨i, out, e'⟩ ⟨k0, k1, k2⟩;(repeat' (first |refine qv ?_ |apply qn |apply qs |apply qr |refine qe ?_ |(refine AD rfl ?_ ?_ <;> intro _ <;> try (exfalso; omega)) |apply qb |apply qk |apply qx |apply qt |(refine Aw rfl rfl rfl rfl rfl rfl rfl rfl (by omega) (by omega) ?_; intro _ _)|fail))
   ·rename_i hi a ha;rw [Int.toNat_natCast] at ha;have hk := hk e' (out * a);refine qc (Mul_ok out a k1 (hl a (List.mem_of_getElem? ha))) ?_;(repeat' (first |refine qv ?_|fail));refine qi [] hk ?_;(repeat' (first |refine qv ?_ |apply qn |apply qr |refine qw ?_ |refine qe ?_|fail));refine LoopEnd.of (i + 1, cV e' (out * a), cE e' (out * a)) ⟨by omega, cV_fit _ _, ?_⟩ (by dsimp only; omega) ?_
    ·rw [← k2];dsimp only;rw [List.drop_eq_getElem_cons (show i < l.length by omega), (List.getElem?_eq_some_iff.1 ha).2];rfl
    ·refine Ent.of [] ?_ ?_ rfl rfl;(repeat' (first |exact True.intro |refine ⟨⟨AA _, rfl⟩, ?_⟩ |refine ⟨⟨⟨_, rfl, BLe.cells (AB _)⟩, rfl⟩, ?_⟩|fail))
   ·rename_i hi;have hd : l.drop i = [] := List.drop_of_length_le (by omega);rw [hd] at k2;have k2 : (out, e') = mulL e 1 l := k2;rw [← k2];exact ⟨⟨[], _, _, AK _ _ _, rfl, AA _, rfl, ⟨⟨⟨_, rfl, BLe.cells (AB _)⟩, rfl⟩, trivial⟩, rfl, rfl⟩⟩
 | some av =>
  refine AG Tryz.func228 rfl Tryz.ntmps228 rfl rfl rfl ?_;(repeat' (first |apply qn |apply qs |apply qr |refine qe ?_|fail));refine qc (CM 1 (by omega) (by omega)) ?_;(repeat' (first |refine qv ?_ |apply qn |apply qs |apply qr |refine qe ?_ |apply qb));refine AWP.loop (G := Nat × Int × Int) (fun g => g.1 ≤ l.length ∧ Fit g.2.1 ∧ mulL g.2.2 g.2.1 (l.drop g.1) = mulL e 1 l) (fun g => AU [900] [(0, .ptr 900 0), (4, .ptr 4 0), (5, .ptr 5 0), (9, .sl 2 eX l), (10, aN l.length), (11, aN g.1)] [(4, .cells [aB false, .v (.slice none 0 0)] 48), (5, .cells (eX g.2.1) 48), (900, chB (some av) g.2.2)]) (fun g => l.length - g.1) (0, 1, e) ⟨by omega, BU, rfl⟩ ?_ ?_
  ·refine Ent.of [] ?_ ?_ rfl rfl;(repeat' (first |exact True.intro |refine ⟨⟨AA _, rfl⟩, ?_⟩ |refine ⟨⟨⟨_, rfl, BLe.cells (AB _)⟩, rfl⟩, ?_⟩|fail))
  ·intro ⟨i, out, e'⟩ ⟨k0, k1, k2⟩;(repeat' (first |refine qv ?_ |apply qn |apply qs |apply qr |refine qe ?_ |(refine AD rfl ?_ ?_ <;> intro _ <;> try (exfalso; omega)) |apply qb |apply qk |apply qx |apply qt |(refine Aw rfl rfl rfl rfl rfl rfl rfl rfl (by omega) (by omega) ?_; intro _ _)|fail))
   ·rename_i hi a ha;rw [Int.toNat_natCast] at ha;have hk := hk e' (out * a);refine qc (Mul_ok out a k1 (hl a (List.mem_of_getElem? ha))) ?_;(repeat' (first |refine qv ?_|fail));refine qi [] hk ?_;(repeat' (first |refine qv ?_ |apply qn |apply qr |refine qw ?_ |refine qe ?_|fail));refine LoopEnd.of (i + 1, cV e' (out * a), cE e' (out * a)) ⟨by omega, cV_fit _ _, ?_⟩ (by dsimp only; omega) ?_
    ·rw [← k2];dsimp only;rw [List.drop_eq_getElem_cons (show i < l.length by omega), (List.getElem?_eq_some_iff.1 ha).2];rfl
    ·refine Ent.of [] ?_ ?_ rfl rfl;(repeat' (first |exact True.intro |refine ⟨⟨AA _, rfl⟩, ?_⟩ |refine ⟨⟨⟨_, rfl, BLe.cells (AB _)⟩, rfl⟩, ?_⟩|fail))
   ·rename_i hi;have hd : l.drop i = [] := List.drop_of_length_le (by omega);rw [hd] at k2;have k2 : (out, e') = mulL e 1 l := k2;rw [← k2];exact ⟨⟨[], _, _, AK _ _ _, rfl, AA _, rfl, ⟨⟨⟨_, rfl, BLe.cells (AB _)⟩, rfl⟩, trivial⟩, rfl, rfl⟩⟩
end Go.Proofs.YtmmfloplhopioaaGreat
namespace Go.AL
theorem cmpI_zero {x y : Int} : cmpI x y = 0 ↔ x = y := by
 unfold cmpI;split
 ·simp; omega
 ·split <;> simp <;> omega
end Go.AL
namespace Go.Proofs.YtmmfloplhopioaaGreat
open Go.AL
theorem chValid_ok (zs : List Z) (hz : ∀ z ∈ zs, WOk z.w) (hl : zs.length ≤ 1000000000) : PureFn Tryz.prog 49 [.sl 2 eZ zs] (aB (decide (∀ z ∈ zs, OkZ z))) := by
 refine AC Tryz.func49 rfl Tryz.ntmps49 rfl rfl ?_;(repeat' (first |refine qv ?_ |apply qn |apply qs |apply qr |apply qb));refine AWP.loop (G := Nat) (fun i => i ≤ zs.length ∧ ∀ z ∈ zs.take i, OkZ z) (fun i => AU [] [(5, .sl 2 eZ zs), (6, aN zs.length), (7, aN i)] []) (fun i => zs.length - i) 0 ⟨by omega, by simp⟩ ?_ ?_
 ·refine Ent.of [] ?_ ?_ rfl rfl;(repeat' (first |exact True.intro |refine ⟨⟨AA _, rfl⟩, ?_⟩|fail))
 ·intro i ⟨h0, h1⟩;(repeat' (first |refine qv ?_ |apply qn |apply qs |apply qr |refine qe ?_ |(refine AD rfl ?_ ?_ <;> intro _ <;> try (exfalso; omega)) |apply qb |apply qk |apply qx |apply qt |(refine Aw rfl rfl rfl rfl rfl rfl rfl rfl (by omega) (by omega) ?_; intro _ _)|fail))
  ·rename_i hi z hzi;rw [Int.toNat_natCast] at hzi;refine qc (Valid_ok z (hz z (List.mem_of_getElem? hzi))) ?_;(repeat' (first |refine qv ?_ |apply qn |apply qs |apply qr |refine qw ?_ |(refine Aa rfl ?_ ?_ <;> intro _ <;> try (exfalso; omega)) |apply qk |apply qt))
   ·rename_i h2;refine RetOk.of rfl (AV.Le.bool (Eq.symm (decide_eq_false fun h => h2 (h z (List.mem_of_getElem? hzi)))))
   ·rename_i h2;refine LoopEnd.of (i + 1) ⟨by omega, BW hzi h1 h2⟩ (by omega) ?_;refine Ent.of [] ?_ ?_ rfl rfl;(repeat' (first |exact True.intro |refine ⟨⟨AA _, rfl⟩, ?_⟩|fail))
  ·refine RetOk.of rfl (AV.Le.bool (Eq.symm (decide_eq_true ?_)));rwa [show i = zs.length by omega, List.take_length] at h1
theorem chValidX_ok (X : List Int) (hX : ∀ x ∈ X, Fit x) (hl : X.length ≤ 1000000000) : PureFn Tryz.prog 49 [.sl 2 eX X] (aB true) := by
 refine (chValid_ok (X.map zOf) (fun z hz => ?_) (by rw [List.length_map]; omega)).le (LeL.cons (Dz (enc := eZ) (f := zOf)) LeL.nil) (AV.Le.bool (decide_eq_true fun z hz => ?_))
 ·obtain ⟨x, _, rfl⟩ := List.mem_map.1 hz; exact Ak _
 ·obtain ⟨x, hx, rfl⟩ := List.mem_map.1 hz; exact Dm (hX x hx)
theorem chNatural_ok (X : List Int) (hl : X.length ≤ 1000000000) : PureFn Tryz.prog 50 [.sl 2 eX X] (aB (decide (∀ x ∈ X, 0 ≤ x))) := by
 refine AC Tryz.func50 rfl Tryz.ntmps50 rfl rfl ?_;(repeat' (first |refine qv ?_ |apply qn |apply qs |apply qr |apply qb));refine AWP.loop (G := Nat) (fun i => i ≤ X.length ∧ ∀ z ∈ X.take i, 0 ≤ z) (fun i => AU [] [(5, .sl 2 eX X), (6, aN X.length), (7, aN i)] []) (fun i => X.length - i) 0 ⟨by omega, by simp⟩ ?_ ?_
 ·refine Ent.of [] ?_ ?_ rfl rfl;(repeat' (first |exact True.intro |refine ⟨⟨AA _, rfl⟩, ?_⟩|fail))
 ·intro i ⟨h0, h1⟩;(repeat' (first |refine qv ?_ |apply qn |apply qs |apply qr |refine qw ?_ |refine qe ?_ |(refine AD rfl ?_ ?_ <;> intro _ <;> try (exfalso; omega)) |apply qb |apply qk |apply qx |apply qt |(refine Aw rfl rfl rfl rfl rfl rfl rfl rfl (by omega) (by omega) ?_; intro _ _)|fail))
  ·rename_i hi z hzi h2;rw [Int.toNat_natCast] at hzi;refine RetOk.of rfl (AV.Le.bool (Eq.symm (decide_eq_false fun h => ?_)));have := h z (List.mem_of_getElem? hzi);omega
  ·rename_i hi z hzi h2;rw [Int.toNat_natCast] at hzi;refine LoopEnd.of (i + 1) ⟨by omega, BW hzi h1 (by omega)⟩ (by omega) ?_;refine Ent.of [] ?_ ?_ rfl rfl;(repeat' (first |exact True.intro |refine ⟨⟨AA _, rfl⟩, ?_⟩|fail))
  ·refine RetOk.of rfl (AV.Le.bool (Eq.symm (decide_eq_true ?_)));rwa [show i = X.length by omega, List.take_length] at h1
theorem Less_ok (x y : Int) (hx : Fit x) (hy : Fit y) : PureFn Tryz.prog 181 [aX x, aX y] (aB (decide (x < y))) := by
 refine AC Tryz.func181 rfl Tryz.ntmps181 rfl rfl ?_;(repeat' (first |refine qv ?_ |apply qn |apply qs |apply qr |refine qe ?_|fail));refine qc (Cmp_ok x y hx hy) ?_;(repeat' (first |refine qv ?_ |apply qn |apply qs |apply qr |apply qt));refine RetOk.of rfl (AV.Le.bool ?_);rw [decide_eq_decide];unfold cmpI;split
 ·simp; omega
 ·split <;> simp <;> omega
theorem Same_ok (x y : Int) (hx : Fit x) (hy : Fit y) : PureFn Tryz.prog 183 [aX x, aX y] (aB (decide (x = y))) := by
 refine AC Tryz.func183 rfl Tryz.ntmps183 rfl rfl ?_;(repeat' (first |refine qv ?_ |apply qn |apply qs |apply qr |refine qe ?_|fail));refine qc (Cmp_ok x y hx hy) ?_;(repeat' (first |refine qv ?_ |apply qn |apply qs |apply qr |refine Fl.skip rfl rfl ?_ |apply qt |(refine AH rfl rfl ?_ ?_ <;> intro _ <;> try (exfalso; omega))))
 ·rename_i h;refine RetOk.of rfl (AV.Le.bool ?_);simp [cmpI_zero.1 h]
 ·rename_i h;refine RetOk.of rfl (AV.Le.bool (Eq.symm (decide_eq_false fun k => h (cmpI_zero.2 k))))
end Go.Proofs.YtmmfloplhopioaaGreat
/- The sequences chi and psi. -/
namespace Go.AL
def cp (a : Int) : Nat → Int × Int
  | 0 => (1, 0)
  | n + 1 => (a * (cp a n).1 + (a * a - 1) * (cp a n).2, (cp a n).1 + a * (cp a n).2)
def chiN (a : Int) (n : Nat) : Int := (cp a n).1
def psiN (a : Int) (n : Nat) : Int := (cp a n).2
theorem Db (a : Int) : chiN a 0 = 1 := rfl
theorem D3 (a : Int) : psiN a 0 = 0 := rfl
theorem chi_succ (a : Int) (n : Nat) : chiN a (n + 1) = a * chiN a n + (a * a - 1) * psiN a n := rfl
theorem CQ (a : Int) (n : Nat) : psiN a (n + 1) = chiN a n + a * psiN a n := rfl
theorem cp_add (a : Int) (m : Nat) : ∀ n, chiN a (m + n) = chiN a m * chiN a n + (a * a - 1) * (psiN a m * psiN a n) ∧ psiN a (m + n) = chiN a m * psiN a n + psiN a m * chiN a n
 | 0 => by simp [Db, D3]
 | n + 1 => by
  obtain ⟨h1, h2⟩ := cp_add a m n;rw [show m + (n + 1) = m + n + 1 by omega];simp only [chi_succ, CQ, h1, h2];constructor <;> grind
theorem pell (a : Int) : ∀ n, chiN a n * chiN a n - (a * a - 1) * (psiN a n * psiN a n) = 1
 | 0 => by simp [Db, D3]
 | n + 1 => by
  have := pell a n;simp only [chi_succ, CQ];grind
theorem chi_dbl (a : Int) (n : Nat) : chiN a (2 * n) = 2 * chiN a n * chiN a n - 1 := by
 have h1 := (cp_add a n n).1;have h2 := pell a n;rw [show 2 * n = n + n by omega, h1];grind
theorem psi_dbl (a : Int) (n : Nat) : psiN a (2 * n) = 2 * chiN a n * psiN a n := by
 have h1 := (cp_add a n n).2;rw [show 2 * n = n + n by omega, h1];grind
theorem cp_pos {a : Int} (ha : 2 ≤ a) : ∀ n, 1 ≤ chiN a n ∧ 0 ≤ psiN a n ∧ psiN a n ≤ chiN a n
 | 0 => by simp [Db, D3]
 | n + 1 => by
  obtain ⟨h1, h2, h3⟩ := cp_pos ha n;rw [chi_succ, CQ];have e1 : 2 * chiN a n ≤ a * chiN a n := Int.mul_le_mul_of_nonneg_right ha (by omega);have e2 : a * psiN a n ≤ (a * a - 1) * psiN a n := Int.mul_le_mul_of_nonneg_right (by have : 2 * a ≤ a * a := Int.mul_le_mul_of_nonneg_right ha (by omega); omega) h2;have e3 : 0 ≤ a * psiN a n := Int.mul_nonneg (by omega) h2;omega
theorem chi_step {a : Int} (ha : 2 ≤ a) (n : Nat) : chiN a n ≤ chiN a (n + 1) ∧ a * chiN a n ≤ chiN a (n + 1) ∧ a * (a * psiN a n) ≤ chiN a (n + 1) ∧ a * psiN a n ≤ chiN a (n + 1) ∧ a ≤ chiN a (n + 1) := by
 obtain ⟨h1, h2, h3⟩ := cp_pos ha n;rw [chi_succ];have e1 : 2 * chiN a n ≤ a * chiN a n := Int.mul_le_mul_of_nonneg_right ha (by omega);have e2 : 2 * psiN a n ≤ a * psiN a n := Int.mul_le_mul_of_nonneg_right ha h2;have e3 : 2 * (a * psiN a n) ≤ a * (a * psiN a n) := Int.mul_le_mul_of_nonneg_right ha (by omega)
 have e4 : (a * a - 1) * psiN a n = a * (a * psiN a n) - psiN a n := by grind
 have e5 : a * 1 ≤ a * chiN a n := Int.mul_le_mul_of_nonneg_left h1 (by omega);omega
theorem chi_mono {a : Int} (ha : 2 ≤ a) {m n : Nat} (h : m ≤ n) : chiN a m ≤ chiN a n := by
 induction n with
 | zero => rw [show m = 0 by omega]; omega
 | succ n ih =>
  by_cases hm : m = n + 1
  ·rw [hm]; omega
  ·have := ih (by omega); have := (chi_step ha n).1; omega
theorem psi_step {a : Int} (ha : 2 ≤ a) (n : Nat) : psiN a n ≤ psiN a (n + 1) ∧ chiN a n ≤ psiN a (n + 1) ∧ a * psiN a n ≤ psiN a (n + 1) := by
 obtain ⟨h1, h2, h3⟩ := cp_pos ha n;rw [CQ];have e2 : 2 * psiN a n ≤ a * psiN a n := Int.mul_le_mul_of_nonneg_right ha h2;omega
theorem psi_mono {a : Int} (ha : 2 ≤ a) {m n : Nat} (h : m ≤ n) : psiN a m ≤ psiN a n := by
 induction n with
 | zero => rw [show m = 0 by omega]; omega
 | succ n ih =>
  by_cases hm : m = n + 1
  ·rw [hm]; omega
  ·have := ih (by omega); have := (psi_step ha n).1; omega
theorem psi_pos {a : Int} (ha : 2 ≤ a) {n : Nat} (h : 1 ≤ n) : 1 ≤ psiN a n := by
 have := psi_mono ha h
 have : psiN a 1 = 1 := by rw [CQ, Db, D3]; omega
 omega
theorem psi_big {a : Int} (ha : 2 ≤ a) : ∀ n : Nat, (2 : Int) ^ n ≤ psiN a (n + 1)
 | 0 => by rw [CQ, Db, D3]; omega
 | n + 1 => by
  have h1 := psi_big ha n;have h2 := (psi_step ha (n + 1)).2.2;have h3 : 2 * psiN a (n + 1) ≤ a * psiN a (n + 1) := Int.mul_le_mul_of_nonneg_right ha (cp_pos ha (n + 1)).2.1;rw [Int.pow_succ]; omega
theorem DS {x : Int} (hx : 1 ≤ x) {m n : Nat} (h : m ≤ n) : x ^ m ≤ x ^ n := by
 induction n with
 | zero => rw [show m = 0 by omega]; omega
 | succ n ih =>
  by_cases hm : m = n + 1
  ·rw [hm]; omega
  ·have h1 := ih (by omega);have h2 : x ^ n * 1 ≤ x ^ n * x := Int.mul_le_mul_of_nonneg_left hx (Int.pow_nonneg (by omega));rw [Int.pow_succ]; omega
theorem pow_le_l {x y : Int} (hx : 0 ≤ x) (h : x ≤ y) : ∀ n : Nat, x ^ n ≤ y ^ n
 | 0 => by simp
 | n + 1 => by
  rw [Int.pow_succ, Int.pow_succ];exact Int.mul_le_mul (pow_le_l hx h n) h hx (Int.pow_nonneg (by omega))
theorem BB_pow (n : Nat) : BB n = 2 ^ (32 * n) := by
 unfold BB;rw [Int.pow_mul]; rfl
theorem psi_not_fit {a : Int} (ha : 2 ≤ a) {n : Nat} (h : 131072 < n) : ¬ Fit (psiN a n) := by
 intro hf;have h1 := psi_big ha (n - 1);rw [show n - 1 + 1 = n by omega] at h1;have h2 := hf.lt;rw [BB_pow] at h2;have h3 : (2 : Int) ^ (32 * 4096) ≤ 2 ^ (n - 1) := DS (by omega) (by omega);omega
theorem pow_not_fit {x : Int} (hx : 2 ≤ x) {n : Nat} (h : 131072 ≤ n) : ¬ Fit (x ^ n) := by
 intro hf;have h2 := hf.lt;rw [BB_pow] at h2;have h3 : (2 : Int) ^ (32 * 4096) ≤ 2 ^ n := DS (by omega) (by omega);have h4 : (2 : Int) ^ n ≤ x ^ n := pow_le_l (by omega) hx n;omega
/-! Chains. -/
theorem CR : ∀ (x : Int) (l : List Int) (o : Int), mulL 4 o (x :: l) = (0, 4)
 | x, [], o => by simp only [mulL, cE_err (show (4 : Int) ≠ 0 by omega), cV_err (show (4 : Int) ≠ 0 by omega)]
 | x, y :: l, o => by
  rw [mulL, cE_err (show (4 : Int) ≠ 0 by omega)];exact CR y l _
theorem Cr : ∀ (l : List Int) (e o : Int), Fit o → Fit (mulL e o l).1
 | [], e, o, h => h
 | x :: l, e, o, h => by rw [mulL]; exact Cr l _ _ (cV_fit _ _)
theorem mulL_ok {o x : Int} {l : List Int} (h : Fit (o * x)) : mulL 0 o (x :: l) = mulL 0 (o * x) l := by rw [mulL, cE_ok h, cV_ok h]
theorem mulL_not1 {o x : Int} (h : ¬ Fit (o * x)) : ∀ {l : List Int}, mulL 0 o (x :: l) = (0, 4)
 | [] => by rw [mulL, cE_not h, cV_not h]; rfl
 | y :: l => by rw [mulL, cE_not h]; exact CR y l _
theorem mul2 {x y : Int} (hx : Fit x) : mulL 0 1 [x, y] = if Fit (x * y) then (x * y, 0) else (0, 4) := by
 rw [mulL_ok (by rwa [Int.one_mul]), Int.one_mul];split
 ·rename_i h; rw [mulL_ok h]; rfl
 ·rename_i h; rw [mulL_not1 h]
theorem mul3 {x y z : Int} (hx : Fit x) (hy : Fit (x * y)) : mulL 0 1 [x, y, z] = if Fit (x * y * z) then (x * y * z, 0) else (0, 4) := by
 rw [mulL_ok (by rwa [Int.one_mul]), Int.one_mul, mulL_ok hy];split
 ·rename_i h; rw [mulL_ok h]; rfl
 ·rename_i h; rw [mulL_not1 h]
theorem mul3_not {x y z : Int} (hx : Fit x) (hy : ¬ Fit (x * y)) : mulL 0 1 [x, y, z] = (0, 4) := by
 rw [mulL_ok (by rwa [Int.one_mul]), Int.one_mul, mulL_not1 hy]
def CS (F : Prop) (r : Int × Int) (w : Int) : Prop := (r = (w, 0) ∧ Fit w) ∨ (r.2 = 4 ∧ ¬ F)
theorem CS.mul2 {F : Prop} {x y : Int} (hx : Fit x) (h : F → Fit (x * y)) : CS F (mulL 0 1 [x, y]) (x * y) := by
 rw [Go.AL.mul2 hx];split
 ·rename_i k; exact .inl ⟨rfl, k⟩
 ·rename_i k; exact .inr ⟨rfl, fun f => k (h f)⟩
theorem CS.mul3 {F : Prop} {x y z : Int} (hx : Fit x) (h1 : F → Fit (x * y)) (h : F → Fit (x * y * z)) : CS F (mulL 0 1 [x, y, z]) (x * y * z) := by
 by_cases hy : Fit (x * y)
 ·rw [Go.AL.mul3 hx hy];split
  ·rename_i k; exact .inl ⟨rfl, k⟩
  ·rename_i k; exact .inr ⟨rfl, fun f => k (h f)⟩
 ·rw [mul3_not hx hy]; exact .inr ⟨rfl, fun f => hy (h1 f)⟩
theorem CS.one {F : Prop} {x : Int} (h : F → Fit x) : CS F (cV 0 x, cE 0 x) x := by
 by_cases hx : Fit x
 ·rw [cV_ok hx, cE_ok hx]; exact .inl ⟨rfl, hx⟩
 ·rw [cE_not hx]; exact .inr ⟨rfl, fun f => hx (h f)⟩
def chF (a e c p : Int) : Int × Int :=
  let r1 := mulL e 1 [a, p]
  let r2 := mulL r1.2 1 [a, r1.1]
  let up := cV r2.2 (r2.1 - p)
  let e3 := cE r2.2 (r2.1 - p)
  let r4 := mulL e3 1 [a, c]
  (cV r4.2 (r4.1 + up), cE r4.2 (r4.1 + up))
def psF (a e c p : Int) : Int × Int :=
  let r1 := mulL e 1 [a, p]
  (cV r1.2 (c + r1.1), cE r1.2 (c + r1.1))
theorem cE4 (x : Int) : cE 4 x = 4 := cE_err (by omega)
theorem chF_err (a c p : Int) : (chF a 4 c p).2 = 4 := by simp only [chF, CR, cE4]
theorem psF_err (a c p : Int) : (psF a 4 c p).2 = 4 := by simp only [psF, CR, cE4]
theorem chF_ok {F : Prop} {a c p : Int} (ha : Fit a) (h1 : F → Fit (a * p)) (h2 : F → Fit (a * (a * p))) (h3 : F → Fit (a * (a * p) - p)) (h4 : F → Fit (a * c)) (h5 : F → Fit (a * c + (a * (a * p) - p))) : CS F (chF a 0 c p) (a * c + (a * (a * p) - p)) := by
 unfold chF;rcases CS.mul2 (F := F) ha h1 with ⟨e1, _⟩ | ⟨e1, n1⟩
 ·rw [e1];rcases CS.mul2 (F := F) ha h2 with ⟨e2, _⟩ | ⟨e2, n2⟩
  ·simp only [e2];rcases CS.one (F := F) h3 with ⟨e3, _⟩ | ⟨e3, n3⟩
   ·injection e3 with e3 e4;simp only [e3, e4];rcases CS.mul2 (F := F) ha h4 with ⟨e5, _⟩ | ⟨e5, n5⟩
    ·simp only [e5]; exact CS.one h5
    ·refine .inr ⟨?_, n5⟩; simp only [e5, cE4]
   ·refine .inr ⟨?_, n3⟩;have e3 : cE 0 (a * (a * p) - p) = 4 := e3;simp only [e3, CR, cE4]
  ·refine .inr ⟨?_, n2⟩; simp only [e2, cE4, CR]
 ·refine .inr ⟨?_, n1⟩; simp only [e1, CR, cE4]
theorem psF_ok {F : Prop} {a c p : Int} (ha : Fit a) (h1 : F → Fit (a * p)) (h2 : F → Fit (c + a * p)) : CS F (psF a 0 c p) (c + a * p) := by
 unfold psF;rcases CS.mul2 (F := F) ha h1 with ⟨e1, _⟩ | ⟨e1, n1⟩
 ·simp only [e1]; exact CS.one h2
 ·refine .inr ⟨?_, n1⟩; simp only [e1, cE4]
end Go.AL
namespace Go.Proofs.YtmmfloplhopioaaGreat
open Go.AL
theorem D0 (x : Int) : PureFn Tryz.prog 233 [aX x] (aX x) := by
 refine AC Tryz.func233 rfl Tryz.ntmps233 rfl rfl ?_;(repeat' (first |refine qv ?_ |apply qn |apply qs |apply qr |refine qe ?_ |apply qt));exact RetOk.of rfl (AA _)
theorem walk_ok (a : Int) : IoFn Tryz.prog 225 [aX a] [] (.ret (.ptr 900 0)) [(900, chB (some a) 0)] := by
 refine AG Tryz.func225 rfl Tryz.ntmps225 rfl rfl rfl ?_;(repeat' (first |refine qv ?_ |apply qn |apply qs |apply qr |refine qe ?_ |apply qt));exact ⟨⟨[(900, 5)], _, _, AK _ _ _, rfl, AA _, rfl, ⟨⟨⟨_, rfl, BLe.cells (AB _)⟩, rfl⟩, trivial⟩, rfl, rfl⟩⟩
theorem fits_ok (a : Int) (ha : Fit a) (h2 : 2 ≤ a) : PureFn Tryz.prog 224 [aX a, .v (.slice none 0 0)] (aN 0) := by
 refine AC Tryz.func224 rfl Tryz.ntmps224 rfl rfl ?_;(repeat' (first |refine qv ?_ |apply qn |apply qs |apply qr |refine qe ?_|fail));refine ql eX [a] ?_;refine qc (chValidX_ok [a] (by simp [ha]) (by simp)) ?_;(repeat' (first |refine qv ?_|fail));refine Fl.call rfl (chValidX_ok [] (by simp) (by simp)) rfl rfl rfl (LeL.cons (AV.Le.nil 2 eX) LeL.nil) ?_;(repeat' (first |refine qv ?_ |apply qn |apply qs |apply qr |refine AF rfl ?_ |apply qk));refine qc (CM 2 (by omega) (by omega)) ?_;have hl := Less_ok a 2 ha (Bb (by omega) (by omega));rw [decide_eq_false (by omega)] at hl;refine qc (hl) ?_;(repeat' (first |refine qv ?_ |apply qn |refine Fl.nil (fun _ => by kernel_rfl) ?_ |apply qs |apply qr |refine AF rfl ?_ |apply qk |apply qt));exact RetOk.of rfl (AA _)
abbrev aP2 (c p : Int) : AV := .agg [aB (decide (c < 0)), aW (toW c.natAbs), aB (decide (p < 0)), aW (toW p.natAbs)]
abbrev wB (a e : Int) : List (AL.Id × Bx) := [(900, chB (some a) e)]
theorem psiS_ok (a e c p : Int) (ha : Fit a) (hc : Fit c) (hp : Fit p) : IoFn Tryz.prog 209 [.ptr 900 0, aP2 c p] (wB a e) (.ret (aX (psF a e c p).1)) (wB a (psF a e c p).2) := by
 refine AG Tryz.func209 rfl Tryz.ntmps209 rfl rfl rfl ?_;have f1 := Cr [a, p] e 1 BU;refine AE ?_;(repeat' (first |apply qn |apply qr |refine qe ?_|fail));refine ⟨?_⟩;refine AWP.seq ?_;refine CO [(900, 1, [aB (decide (a < 0)), aW (toW a.natAbs)]), (900, 3, [.fn 233 []])] (InvJ.cons ⟨_, _, rfl, rfl⟩ (InvJ.cons ⟨_, _, rfl, rfl⟩ (InvJ.nil _))) ?_;(repeat' (first |refine Fl.ldJ rfl rfl rfl rfl rfl rfl rfl rfl ?_ |refine qv ?_|fail));refine ql eX [a, p] ?_;refine qi [] (EF (some a) e [a, p] (by simp [ha, hp]) (by simp)) ?_;refine qi [] (chAdd_ok (some a) _ _ _ hc f1) ?_;refine Ca rfl rfl (D0 _) rfl rfl rfl (AB _) ?_;(repeat' (first |refine Fl.nil (fun _ => by kernel_rfl) ?_ |refine qe ?_ |apply qt));exact ⟨⟨[], _, _, AK _ _ _, rfl, AA _, rfl, ⟨⟨⟨_, rfl, BLe.cells (AB _)⟩, rfl⟩, trivial⟩, rfl, rfl⟩⟩
theorem chiS_ok (a e c p : Int) (ha : Fit a) (hc : Fit c) (hp : Fit p) : IoFn Tryz.prog 235 [.ptr 900 0, aP2 c p] (wB a e) (.ret (aX (chF a e c p).1)) (wB a (chF a e c p).2) := by
 refine AG Tryz.func235 rfl Tryz.ntmps235 rfl rfl rfl ?_;have f1 := Cr [a, p] e 1 BU;have f2 := Cr [a, (mulL e 1 [a, p]).1] (mulL e 1 [a, p]).2 1 BU;have f4 := Cr [a, c] (cE (mulL (mulL e 1 [a, p]).2 1 [a, (mulL e 1 [a, p]).1]).2 ((mulL (mulL e 1 [a, p]).2 1 [a, (mulL e 1 [a, p]).1]).1 - p)) 1 BU;refine AE ?_;(repeat' (first |apply qn |apply qr |refine qe ?_|fail));refine ⟨?_⟩;refine AE ?_;refine CO [(900, 1, [aB (decide (a < 0)), aW (toW a.natAbs)]), (900, 3, [.fn 233 []])] (InvJ.cons ⟨_, _, rfl, rfl⟩ (InvJ.cons ⟨_, _, rfl, rfl⟩ (InvJ.nil _))) ?_;(repeat' (first |refine Fl.ldJ rfl rfl rfl rfl rfl rfl rfl rfl ?_ |refine qv ?_|fail));refine ql eX [a, p] ?_;refine qi [] (EF (some a) e [a, p] (by simp [ha, hp]) (by simp)) ?_;refine Ca rfl rfl (D0 _) rfl rfl rfl (AB _) ?_;refine ql eX [a, (mulL e 1 [a, p]).1] ?_;refine qi [] (EF (some a) _ [a, (mulL e 1 [a, p]).1] (by simp [ha, f1]) (by simp)) ?_;(repeat' (first |refine qv ?_|fail));refine qi [] (chSub_ok (some a) _ _ p f2 hp) ?_;(repeat' (first |refine Fl.nil (fun _ => by kernel_rfl) ?_ |refine qe ?_|fail));refine ⟨?_⟩;refine AWP.seq ?_;refine CO [(900, 1, [aB (decide (a < 0)), aW (toW a.natAbs)]), (900, 3, [.fn 233 []])] (InvJ.cons ⟨_, _, rfl, rfl⟩ (InvJ.cons ⟨_, _, rfl, rfl⟩ (InvJ.nil _))) ?_;(repeat' (first |refine Fl.ldJ rfl rfl rfl rfl rfl rfl rfl rfl ?_ |refine qv ?_|fail));refine ql eX [a, c] ?_;refine qi [] (EF (some a) _ [a, c] (by simp [ha, hc]) (by simp)) ?_;(repeat' (first |refine qv ?_|fail));refine qi [] (chAdd_ok (some a) _ _ _ f4 (cV_fit _ _)) ?_;refine Ca rfl rfl (D0 _) rfl rfl rfl (AB _) ?_;(repeat' (first |refine Fl.nil (fun _ => by kernel_rfl) ?_ |refine qe ?_ |apply qt));exact ⟨⟨[], _, _, AK _ _ _, rfl, AA _, rfl, ⟨⟨⟨_, rfl, BLe.cells (AB _)⟩, rfl⟩, trivial⟩, rfl, rfl⟩⟩
end Go.Proofs.YtmmfloplhopioaaGreat
namespace Go.AL
def dbF (e c p : Int) : Int × Int × Int :=
  let r1 := mulL e 1 [2, c, c]
  let r2 := mulL (cE r1.2 (r1.1 - 1)) 1 [2, c, p]
  (cV r1.2 (r1.1 - 1), r2.1, r2.2)
def upF (a : Int) (s : Int × Int × Int) : Int × Int × Int :=
  let r1 := chF a s.2.2 s.1 s.2.1
  let r2 := psF a r1.2 s.1 s.2.1
  (r1.1, r2.1, r2.2)
def atL (a n : Int) : Nat → Int × Int × Int → Int × Int × Int
  | 0, s => s
  | j + 1, s => if s.2.2 = 0 then atL a n j (if n / 2 ^ j % 2 = 1 then upF a (dbF s.2.2 s.1 s.2.1) else dbF s.2.2 s.1 s.2.1) else s
theorem dbF_fit (e c p : Int) : Fit (dbF e c p).1 ∧ Fit (dbF e c p).2.1 := ⟨cV_fit _ _, Cr _ _ _ BU⟩
theorem upF_fit (a : Int) (s : Int × Int × Int) : Fit (upF a s).1 ∧ Fit (upF a s).2.1 := ⟨cV_fit _ _, cV_fit _ _⟩
theorem leP2_zero {σ : List (Id × Id)} : LeL [aB (decide ((1 : Int) < 0)), aW (toW ((1 : Int).natAbs)), aB false, .v (.slice none 0 0)] (renL (renI σ) [aB (decide ((1 : Int) < 0)), aW (toW ((1 : Int).natAbs)), aB (decide ((0 : Int) < 0)), aW (toW ((0 : Int).natAbs))]) :=
 LeL.cons (AA _) (LeL.cons (AA _) (LeL.cons (AV.Le.bool rfl) (LeL.cons (by show (AV.v (.slice none 0 0)).Le (aW (toW ((0 : Int).natAbs))); rw [show ((Int.natAbs 0 : Nat) : Int) = 0 from rfl, toW_zero]; exact AV.Le.nil 1 eW) LeL.nil)))
theorem fit_two : Fit 2 := Bb (by omega) (by omega)
end Go.AL
namespace Go.Proofs.YtmmfloplhopioaaGreat
open Go.AL
set_option maxHeartbeats 1000000 in
theorem at_ok (a n : Int) (ha : Fit a) (h0 : 0 ≤ n) (h1 : n ≤ 9223372036854775807) : IoFn Tryz.prog 226 [.ptr 900 0, aN n] (wB a 0) (.ret (aP2 (atL a n 63 (1, 0, 0)).1 (atL a n 63 (1, 0, 0)).2.1)) (wB a (atL a n 63 (1, 0, 0)).2.2) := by
 refine AG Tryz.func226 rfl Tryz.ntmps226 rfl rfl rfl ?_;refine AE ?_;(repeat' (first |apply qn |apply qr |refine qe ?_|fail));refine ⟨?_⟩;refine AE ?_;refine CO [(900, 3, [.fn 233 []])] (InvJ.cons ⟨_, _, rfl, rfl⟩ (InvJ.nil _)) ?_;(repeat' (first |refine Fl.ldJ rfl rfl rfl rfl rfl rfl rfl rfl ?_ |refine qv ?_|fail));refine qc (CM 1 (by omega) (by omega)) ?_;refine Ca rfl rfl (D0 _) rfl rfl rfl (AB _) ?_;(repeat' (first |refine Fl.nil (fun _ => by kernel_rfl) ?_ |refine qe ?_|fail));refine ⟨?_⟩;(repeat' (first |refine qv ?_ |apply qn |apply qs |apply qr |apply qb));refine AWP.loop (G := Nat × Int × Int × Int) (fun g => g.1 ≤ 63 ∧ Fit g.2.1 ∧ Fit g.2.2.1 ∧ atL a n g.1 g.2 = atL a n 63 (1, 0, 0)) (fun g => AU [900] [(0, .ptr 900 0), (1, aN n), (4, .ptr 4 0), (5, .ptr 5 0), (6, aN ((g.1 : Int) - 1))] [(4, .cells [aB false, .v (.slice none 0 0), aB false, .v (.slice none 0 0)] 240), (5, .cells [aB (decide (g.2.1 < 0)), aW (toW g.2.1.natAbs), aB (decide (g.2.2.1 < 0)), aW (toW g.2.2.1.natAbs)] 240), (900, chB (some a) g.2.2.2)]) (fun g => g.1) (63, 1, 0, 0) ⟨by omega, BU, Fit.zero, rfl⟩ ?_ ?_
 ·refine Ent.of [] ?_ ?_ rfl rfl;(repeat' (first |exact True.intro |refine ⟨⟨AA _, rfl⟩, ?_⟩ |refine ⟨⟨⟨_, rfl, BLe.cells (AB _)⟩, rfl⟩, ?_⟩ |refine ⟨⟨⟨_, rfl, BLe.cells ?_⟩, rfl⟩, ?_⟩|fail));exact leP2_zero
 ·intro ⟨j, c, p, e⟩ ⟨k0, k1, k2, k3⟩;refine AE ?_;(repeat' (first |refine qv ?_ |apply qn |apply qs |apply qr |refine qe ?_ |refine Fl.skip rfl rfl ?_ |refine AF rfl ?_ |(refine AD rfl ?_ ?_ <;> intro _ <;> try (exfalso; omega)) |apply qk |apply qx |apply qt |(refine AH rfl rfl ?_ ?_ <;> intro _ <;> try (exfalso; omega))))
  ·rename_i hj he;dsimp only at k0 k1 k2 k3 hj he;subst he
   cases j with
   | zero => exfalso; omega
   | succ j =>
   have hs : ∀ s', s' = (if n / 2 ^ j % 2 = 1 then upF a (dbF 0 c p) else dbF 0 c p) → atL a n j s' = atL a n 63 (1, 0, 0) := fun s' h => by rw [← k3, h]; simp only [atL, if_true]
   have d1 := Cr [2, c, c] 0 1 BU;have d2 := Cr [2, c, p] (cE (mulL 0 1 [2, c, c]).2 ((mulL 0 1 [2, c, c]).1 - 1)) 1 BU;refine ⟨?_⟩;refine AWP.seq ?_;refine AWP.block ?_;refine AE ?_;refine CO [(900, 3, [.fn 233 []])] (InvJ.cons ⟨_, _, rfl, rfl⟩ (InvJ.nil _)) ?_;(repeat' (first |refine Fl.ldJ rfl rfl rfl rfl rfl rfl rfl rfl ?_ |refine qv ?_|fail));refine qc (CM 2 (by omega) (by omega)) ?_;(repeat' (first |refine qv ?_|fail));refine ql eX [2, c, c] ?_;refine qi [] (EF (some a) 0 [2, c, c] (by simp [k1, fit_two]) (by simp)) ?_;refine qc (CM 1 (by omega) (by omega)) ?_;refine qi [] (chSub_ok (some a) _ _ _ d1 BU) ?_;refine Ca rfl rfl (D0 _) rfl rfl rfl (AB _) ?_;(repeat' (first |refine Fl.ldJ rfl rfl rfl rfl rfl rfl rfl rfl ?_ |refine qv ?_|fail));refine qc (CM 2 (by omega) (by omega)) ?_;(repeat' (first |refine qv ?_|fail));refine ql eX [2, c, p] ?_;refine qi [] (EF (some a) _ [2, c, p] (by simp [k1, k2, fit_two]) (by simp)) ?_;refine Ca rfl rfl (D0 _) rfl rfl rfl (AB _) ?_;(repeat' (first |refine Fl.nil (fun _ => by kernel_rfl) ?_ |refine qe ?_|fail));refine ⟨?_⟩;(repeat' (first |refine qv ?_ |apply qs |apply qr |refine qw ?_|fail));have q0 : 0 ≤ n / 2 ^ (((j + 1 : Nat) : Int) - 1).toNat := Int.ediv_nonneg h0 (Int.le_of_lt (Int.pow_pos (by omega)));have q1 : n / 2 ^ (((j + 1 : Nat) : Int) - 1).toNat ≤ n := Int.ediv_le_self _ h0;refine Fl.w rfl rfl rfl ⟨q0, Int.le_trans q1 h1, by omega, by omega⟩ ?_
   have qj : (((j + 1 : Nat) : Int) - 1).toNat = j := by omega
   have hb := bitN_and1 q0;(repeat' (first |refine qv ?_ |apply qn |apply qr |refine qw ?_ |(refine AD rfl ?_ ?_ <;> intro _ <;> try (exfalso; omega)) |apply qk))
   ·rename_i hbit
    have hbit2 : n / 2 ^ j % 2 = 1 := by rw [← qj, ← hb]; exact hbit
    have hd := dbF_fit 0 c p;refine qi [] (chiS_ok a (dbF 0 c p).2.2 (dbF 0 c p).1 (dbF 0 c p).2.1 ha hd.1 hd.2) ?_;(repeat' (first |refine qv ?_|fail));refine qi [] (psiS_ok a (chF a (dbF 0 c p).2.2 (dbF 0 c p).1 (dbF 0 c p).2.1).2 (dbF 0 c p).1 (dbF 0 c p).2.1 ha hd.1 hd.2) ?_;(repeat' (first |refine qv ?_ |apply qn |refine Fl.nil (fun _ => by kernel_rfl) ?_ |apply qr |refine qw ?_ |refine qe ?_|fail));refine LoopEnd.of (j, upF a (dbF 0 c p)) ⟨by dsimp only; omega, (upF_fit _ _).1, (upF_fit _ _).2, hs _ (if_pos hbit2).symm⟩ (by dsimp only; omega) ?_;refine Ent.of [] ?_ ?_ rfl rfl;(repeat' (first |exact True.intro |refine ⟨⟨AA _, rfl⟩, ?_⟩ |refine ⟨⟨⟨_, rfl, BLe.cells (AB _)⟩, rfl⟩, ?_⟩ |refine ⟨⟨AV.Le.int ?_, rfl⟩, ?_⟩|fail));show ((j + 1 : Nat) : Int) - 1 - 1 = (j : Int) - 1;omega
   ·rename_i hbit
    have hbit2 : ¬ n / 2 ^ j % 2 = 1 := by rw [← qj, ← hb]; exact hbit
    have hd := dbF_fit 0 c p;refine LoopEnd.of (j, dbF 0 c p) ⟨by dsimp only; omega, hd.1, hd.2, hs _ (if_neg hbit2).symm⟩ (by dsimp only; omega) ?_;refine Ent.of [] ?_ ?_ rfl rfl;(repeat' (first |exact True.intro |refine ⟨⟨AA _, rfl⟩, ?_⟩ |refine ⟨⟨⟨_, rfl, BLe.cells (AB _)⟩, rfl⟩, ?_⟩ |refine ⟨⟨AV.Le.int ?_, rfl⟩, ?_⟩|fail));show ((j + 1 : Nat) : Int) - 1 - 1 = (j : Int) - 1;omega
  ·rename_i hj he;dsimp only at k0 k1 k2 k3 hj he
   cases j with
   | zero => exfalso; omega
   | succ j =>
   have k4 : atL a n (j + 1) (c, p, e) = (c, p, e) := by rw [atL]; exact if_neg he
   rw [← k3, k4];exact ⟨⟨[], _, _, AK _ _ _, rfl, AA _, rfl, ⟨⟨⟨_, rfl, BLe.cells (AB _)⟩, rfl⟩, trivial⟩, rfl, rfl⟩⟩
  ·rename_i hj;dsimp only at k0 k1 k2 k3 hj
   cases j with
   | succ j => exfalso; omega
   | zero =>
   have k4 : atL a n 0 (c, p, e) = (c, p, e) := rfl;rw [← k3, k4];exact ⟨⟨[], _, _, AK _ _ _, rfl, AA _, rfl, ⟨⟨⟨_, rfl, BLe.cells (AB _)⟩, rfl⟩, trivial⟩, rfl, rfl⟩⟩
end Go.Proofs.YtmmfloplhopioaaGreat
/- What the walk through a number's digits yields. -/
namespace Go.AL
theorem Cz {x T : Int} (h : Fit T) (h0 : 0 ≤ x) (h1 : x ≤ T) : Fit x := h.le (by omega)
theorem cV_of_cE {e x : Int} (h : cE e x ≠ 0) : cV e x = 0 := by
 unfold cE at h; unfold cV;split at h
 ·rename_i he;rw [if_neg];exact fun k => h (szErr_eq.2 k.2)
 ·rename_i he;exact if_neg fun k => he k.1
section
variable {a : Int} {N : Nat}
abbrev FN (a : Int) (N : Nat) : Prop := Fit (psiN a (N + 1))
theorem dbF_ok (ha : 2 ≤ a) {m : Nat} (hm : 2 * m ≤ N) : (dbF 0 (chiN a m) (psiN a m) = (chiN a (2 * m), psiN a (2 * m), 0)) ∨ ((dbF 0 (chiN a m) (psiN a m)).2.2 = 4 ∧ ¬ FN a N) := by
 obtain ⟨p1, p2, p3⟩ := cp_pos ha m;have hc := chi_dbl a m;have hp := psi_dbl a m;have b1 : 2 * chiN a m * 1 ≤ 2 * chiN a m * chiN a m := Int.mul_le_mul_of_nonneg_left p1 (by omega)
 have b0 : FN a N → Fit (2 * chiN a m * chiN a m) := by
  intro hF;by_cases hN : N = 0
  ·have : m = 0 := by omega
   subst this;rw [Db]; exact fit_two
  ·refine Cz hF (by omega) ?_;have h1 := chi_mono ha hm;have h2 := psi_pos ha (n := N) (by omega);have h3 : 2 * psiN a N ≤ a * psiN a N := Int.mul_le_mul_of_nonneg_right ha (by omega);rw [CQ]; omega
 have b2 : FN a N → Fit (2 * chiN a m) := fun hF => Cz (b0 hF) (by omega) (by omega);have b3 : FN a N → Fit (2 * chiN a m * chiN a m - 1) := fun hF => Cz (b0 hF) (by omega) (by omega);have b4 : FN a N → Fit (2 * chiN a m * psiN a m) := fun hF => Cz hF (by rw [← hp]; exact (cp_pos ha _).2.1) (by rw [← hp]; exact psi_mono ha (by omega));unfold dbF;rcases CS.mul3 (F := FN a N) fit_two b2 b0 with ⟨e1, _⟩ | ⟨e1, n1⟩
 ·simp only [e1];rcases CS.one (F := FN a N) b3 with ⟨e2, _⟩ | ⟨e2, n2⟩
  ·injection e2 with e2 e3;simp only [e2, e3];rcases CS.mul3 (F := FN a N) fit_two b2 b4 with ⟨e5, _⟩ | ⟨e5, n5⟩
   ·simp only [e5]; left; rw [hc, hp]
   ·exact .inr ⟨e5, n5⟩
  ·have e2 : cE 0 (2 * chiN a m * chiN a m - 1) = 4 := e2;refine .inr ⟨?_, n2⟩;simp only [e2, CR]
 ·refine .inr ⟨?_, n1⟩;simp only [e1, cE4, CR]
theorem upF_ok (ha : 2 ≤ a) (hf : Fit a) {m : Nat} (hm : m + 1 ≤ N) : (upF a (chiN a m, psiN a m, 0) = (chiN a (m + 1), psiN a (m + 1), 0)) ∨ ((upF a (chiN a m, psiN a m, 0)).2.2 = 4 ∧ ¬ FN a N) := by
 obtain ⟨p1, p2, p3⟩ := cp_pos ha m;obtain ⟨c1, c2, c3, c4, c5⟩ := chi_step ha m
 have b0 : chiN a (m + 1) ≤ psiN a (N + 1) := by
  have h1 := chi_mono ha hm;have h2 := (psi_step ha N).2.1;omega
 have e1 : 0 ≤ a * psiN a m := Int.mul_nonneg (by omega) p2;have e2 : 0 ≤ a * (a * psiN a m) := Int.mul_nonneg (by omega) e1;have e3 : 0 ≤ a * chiN a m := Int.mul_nonneg (by omega) (by omega);have e4 : 2 * (a * psiN a m) ≤ a * (a * psiN a m) := Int.mul_le_mul_of_nonneg_right ha e1;have e5 : 2 * psiN a m ≤ a * psiN a m := Int.mul_le_mul_of_nonneg_right ha p2
 have hs : a * chiN a m + (a * (a * psiN a m) - psiN a m) = chiN a (m + 1) := by rw [chi_succ]; grind
 have hq : chiN a m + a * psiN a m = psiN a (m + 1) := (CQ a m).symm;unfold upF;rcases chF_ok (F := FN a N) (a := a) (c := chiN a m) (p := psiN a m) hf (fun F => Cz F e1 (by omega)) (fun F => Cz F e2 (by omega)) (fun F => Cz F (by omega) (by omega)) (fun F => Cz F e3 (by omega)) (fun F => Cz F (by omega) (by omega)) with ⟨k1, _⟩ | ⟨k1, n1⟩
 ·simp only [k1];rcases psF_ok (F := FN a N) (a := a) (c := chiN a m) (p := psiN a m) hf (fun F => Cz F e1 (by omega)) (fun F => Cz F (by omega) (by rw [hq]; exact psi_mono ha (by omega))) with ⟨k2, _⟩ | ⟨k2, n2⟩
  ·left; simp only [k2]; rw [hs, hq]
  ·exact .inr ⟨k2, n2⟩
 ·refine .inr ⟨?_, n1⟩;simp only [k1, psF_err]
def AtI (a : Int) (N j : Nat) (s : Int × Int × Int) : Prop := s = (chiN a (N / 2 ^ j), psiN a (N / 2 ^ j), 0) ∨ (s.2.2 = 4 ∧ ¬ FN a N)
theorem atL_ok (ha : 2 ≤ a) (hf : Fit a) : ∀ (j : Nat) (s : Int × Int × Int), AtI a N j s → AtI a N 0 (atL a N j s)
 | 0, s, h => h
 | j + 1, s, h => by
  rcases h with rfl | ⟨h1, h2⟩
  ·rw [atL, if_pos rfl];refine atL_ok ha hf j _ ?_
   have hd : N / 2 ^ (j + 1) = N / 2 ^ j / 2 := by rw [Nat.pow_succ, Nat.div_div_eq_div_mul]
   have hle : N / 2 ^ j ≤ N := Nat.div_le_self _ _
   have hbit : ((N : Int) / 2 ^ j % 2 = 1) ↔ N / 2 ^ j % 2 = 1 := by
    have : (N : Int) / 2 ^ j = ((N / 2 ^ j : Nat) : Int) := by rw [Int.natCast_ediv, Int.natCast_pow]; rfl
    rw [this]; omega
   dsimp only;rw [hd]
   generalize hq : N / 2 ^ j = q at *
   rcases dbF_ok ha (N := N) (m := q / 2) (by omega) with e1 | ⟨e1, n1⟩
   ·rw [e1];by_cases hb : (N : Int) / 2 ^ j % 2 = 1
    ·rw [if_pos hb];have hb2 := hbit.1 hb;rcases upF_ok ha hf (N := N) (m := 2 * (q / 2)) (by omega) with e2 | ⟨e2, n2⟩
     ·left;rw [e2, hq, show 2 * (q / 2) + 1 = q by omega]
     ·exact .inr ⟨e2, n2⟩
    ·rw [if_neg hb];left;have : q % 2 ≠ 1 := fun h => hb (hbit.2 h);rw [hq, show 2 * (q / 2) = q by omega]
   ·split
    ·refine .inr ⟨?_, n1⟩;unfold upF;simp only [e1, chF_err, psF_err]
    ·exact .inr ⟨e1, n1⟩
  ·rw [atL, if_neg (by omega)];exact .inr ⟨h1, h2⟩
theorem psi_res (ha : 2 ≤ a) (hf : Fit a) (hN : N < 2 ^ 63) {r : Int × Int} (hr : r = psF a (atL a N 63 (1, 0, 0)).2.2 (atL a N 63 (1, 0, 0)).1 (atL a N 63 (1, 0, 0)).2.1) : r.1 = clip (psiN a (N + 1)) ∧ r.2 = szErr (psiN a (N + 1)) := by
 have h := atL_ok ha hf (N := N) 63 (1, 0, 0) (.inl (by rw [Nat.div_eq_of_lt hN, Db, D3]))
 have hz : r.2 ≠ 0 → r.1 = 0 := by
  rw [hr]; unfold psF; exact fun h => cV_of_cE h
 have fin : r.2 = 4 → ¬ FN a N → r.1 = clip (psiN a (N + 1)) ∧ r.2 = szErr (psiN a (N + 1)) := fun h1 h2 => by
  rw [clip_not h2, DC h2];exact ⟨hz (by omega), h1⟩
 rcases h with h | ⟨h1, h2⟩
 ·rw [h] at hr;simp only [Nat.pow_zero, Nat.div_one] at hr;obtain ⟨p1, p2, p3⟩ := cp_pos ha N;have e1 : 0 ≤ a * psiN a N := Int.mul_nonneg (by omega) p2;have hq : chiN a N + a * psiN a N = psiN a (N + 1) := (CQ a N).symm;rcases psF_ok (F := FN a N) (a := a) (c := chiN a N) (p := psiN a N) hf (fun F => Cz F e1 (psi_step ha N).2.2) (fun F => by rw [hq]; exact F) with ⟨k2, kf⟩ | ⟨k2, n2⟩
  ·rw [hr, k2, hq];rw [hq] at kf;rw [CD kf, szErr_fit kf]; exact ⟨rfl, rfl⟩
  ·rw [← hr] at k2;exact fin k2 n2
 ·refine fin ?_ h2;rw [hr, h1, psF_err]
end
end Go.AL
namespace Go.AL
theorem atL_fit (a n : Int) : ∀ (j : Nat) (s : Int × Int × Int), Fit s.1 → Fit s.2.1 → Fit (atL a n j s).1 ∧ Fit (atL a n j s).2.1
 | 0, s, h1, h2 => ⟨h1, h2⟩
 | j + 1, s, h1, h2 => by
  rw [atL];split
  ·split
   ·exact atL_fit a n j _ (upF_fit _ _).1 (upF_fit _ _).2
   ·exact atL_fit a n j _ (dbF_fit _ _ _).1 (dbF_fit _ _ _).2
  ·exact ⟨h1, h2⟩
end Go.AL
namespace Go.Proofs.YtmmfloplhopioaaGreat
open Go.AL
theorem element_ok (a n : Int) (ha : Fit a) (h2 : 2 ≤ a) (h0 : 1 ≤ n) (h1 : n ≤ 9223372036854775807) : PureFn Tryz.prog 208 [aX a, aN n, aN 0, .fn 209 []] (aR (psiN a n.toNat)) := by
 refine AC Tryz.func208 rfl Tryz.ntmps208 rfl rfl ?_;(repeat' (first |refine qv ?_ |apply qn |apply qs |apply qr |refine qe ?_|fail));refine qc (fits_ok a ha h2) ?_;(repeat' (first |refine qv ?_ |apply qn |apply qs |apply qr |refine qe ?_ |refine AF rfl ?_ |(refine AD rfl ?_ ?_ <;> intro _ <;> try (exfalso; omega)) |apply qb |apply qk |apply qt))
 ·rename_i h;refine RetOk.of rfl ?_;rw [Dy (psi_not_fit h2 (by omega))];exact AV.Le.tup (LeL.cons DA (AB _))
 ·rename_i h;refine Ay rfl [(900, 33)] (walk_ok a) rfl rfl (AB _) rfl trivial rfl rfl rfl rfl rfl ?_;(repeat' (first |refine qv ?_ |apply qn |apply qs |apply qr |refine qw ?_|fail));refine qi [(900, 33)] (at_ok a (n - 1) ha (by omega) (by omega)) ?_
  have hN : (((n - 1).toNat : Nat) : Int) = n - 1 := by omega
  have hfc : Fit (atL a (n - 1) 63 (1, 0, 0)).1 ∧ Fit (atL a (n - 1) 63 (1, 0, 0)).2.1 := atL_fit a (n - 1) 63 _ BU Fit.zero;refine Dg rfl rfl [(900, 33)] (psiS_ok a _ _ _ ha hfc.1 hfc.2) rfl rfl (AB _) rfl ⟨⟨⟨_, rfl, BLe.cells (AB _)⟩, rfl⟩, trivial⟩ rfl rfl rfl rfl rfl ?_;(repeat' (first |refine qv ?_ |apply qn |refine Fl.nil (fun _ => by kernel_rfl) ?_ |apply qs |apply qr |refine qe ?_ |apply qt));have hr := psi_res (a := a) (N := (n - 1).toNat) h2 ha (by omega) rfl;rw [hN, show (n - 1).toNat + 1 = n.toNat by omega] at hr;refine RetOk.of rfl (AV.Le.tup (LeL.cons (AV.Le.agg ?_) (LeL.cons (AV.Le.int hr.2) LeL.nil)));exact leX (σ := []) hr.1
theorem Psi_ok (a n : Int) (ha : Fit a) (h2 : 2 ≤ a) (h0 : 1 ≤ n) (h1 : n ≤ 9223372036854775807) : PureFn Tryz.prog 182 [aX a, aN n] (aR (psiN a n.toNat)) := by
 refine AC Tryz.func182 rfl Tryz.ntmps182 rfl rfl ?_;(repeat' (first |refine qv ?_ |apply qn |apply qs |apply qr |refine qe ?_|fail));refine qc (element_ok a n ha h2 h0 h1) ?_;(repeat' (first |refine qv ?_ |apply qn |refine qe ?_ |apply qt));exact RetOk.of rfl (AA _)
end Go.Proofs.YtmmfloplhopioaaGreat
namespace Go.AL
def BT (k : Int) : Int := if k = 0 then 1 else if k = 1 then 3 else if k = 2 then 3 else if k = 3 then 2 else 0
def incB (last top : Int) : List Int → Prop
  | [] => True
  | v :: l => last < v ∧ v < top ∧ incB v top l
structure OkL (vars : Int) (l : LZ) : Prop where
  kind : BT l.kind ≠ 0
  len : (l.polys.length : Int) = BT l.kind
  vlen : l.vars.length ≤ 32
  inc : incB (-1) vars l.vars
  polys : ∀ p ∈ l.polys, p.vars = l.vars.length ∧ OkP p
def WL (l : LZ) : Prop := ∀ p ∈ l.polys, WP p
structure OkS (s : SZ) : Prop where
  v0 : 0 ≤ s.vars
  v1 : s.vars ≤ 20000
  len : s.links.length ≤ 20000
  links : ∀ l ∈ s.links, OkL s.vars l
def WS (s : SZ) : Prop := ∀ l ∈ s.links, WL l
def idxI {α : Type} (f : α → Bool) : List α → Int → Int
  | [], _ => -1
  | x :: l, k => if f x then k else idxI f l (k + 1)
theorem EB {α : Type} (f : α → Bool) : ∀ (l : List α) (k : Int), 0 ≤ k → decide (0 ≤ idxI f l k) = l.any f
 | [], k, h => by simp [idxI]
 | x :: l, k, h => by
  simp only [idxI, List.any_cons];by_cases hx : f x = true
  ·simp [hx, h]
  ·have := EB f l (k + 1) (by omega);simp only [hx, Bool.false_or];simpa using this
theorem EA {α : Type} {f : α → Bool} {l : List α} {i : Nat} {x : α} (h : l[i]? = some x) : idxI f (l.drop i) i = if f x then (i : Int) else idxI f (l.drop (i + 1)) ((i + 1 : Nat) : Int) := by
 have hi := (List.getElem?_eq_some_iff.1 h).1;rw [List.drop_eq_getElem_cons hi, (List.getElem?_eq_some_iff.1 h).2];simp only [idxI];congr 2
end Go.AL
namespace Go.Proofs.YtmmfloplhopioaaGreat
open Go.AL
theorem needs_ok (k : Int) : PureFn Tryz.prog 173 [aN k] (aN (BT k)) := by
 refine AC Tryz.func173 rfl Tryz.ntmps173 rfl rfl ?_;(repeat' (first |refine qv ?_ |apply qn |apply qs |apply qr |refine Fl.skip rfl rfl ?_ |refine AM rfl ?_ |(refine AD rfl ?_ ?_ <;> intro _ <;> try (exfalso; omega)) |apply qk |apply qt |(refine AH rfl rfl ?_ ?_ <;> intro _ <;> try (exfalso; omega))))
 ·exact RetOk.of rfl (AV.Le.int (by unfold BT; repeat rw [if_neg (by omega)]))
 ·exact RetOk.of rfl (AV.Le.int (by unfold BT; repeat rw [if_neg (by omega)]))
 ·rename_i h0 h1
  obtain rfl | rfl | rfl | rfl : k = 0 ∨ k = 1 ∨ k = 2 ∨ k = 3 := by omega
  all_goals
   refine Fl.bArr rfl rfl rfl rfl ?_;(repeat' (first |refine qv ?_|fail));refine Fl.ixA rfl rfl rfl rfl rfl rfl rfl rfl rfl rfl ?_ ?_ ?_
   ·exact by decide
   ·exact by decide
   (repeat' (first |refine qv ?_ |apply qn |apply qt));exact RetOk.of rfl (AA _)
abbrev lB (l : LZ) : List (AL.Id × Bx) := [(900, .cells (eL l) 99)]
theorem link1_ok (l : LZ) (p : PZ) (hw : WP p) (b : Bool) (hb : b = true ↔ p.vars = l.vars.length ∧ OkP p) : IoFn Tryz.prog 175 [aP p, .ptr 900 0] (lB l) (.ret (aB !b)) (lB l) := by
 refine AG Tryz.func175 rfl Tryz.ntmps175 rfl rfl rfl ?_;(repeat' (first |refine qv ?_ |apply qn |apply qs |apply qr |refine qe ?_ |refine Fl.skip rfl rfl ?_ |apply qt |(refine DG rfl rfl ?_ ?_ <;> intro _ <;> try (exfalso; omega))))
 ·rename_i h;refine ⟨⟨[], _, _, AK _ _ _, rfl, AV.Le.bool ?_, rfl, ⟨⟨⟨_, rfl, BLe.cells (AB _)⟩, rfl⟩, trivial⟩, rfl, rfl⟩⟩
  cases b with
  | false => rfl
  | true => exact absurd (hb.1 rfl).1 h
 ·rename_i h;refine qc (B6 p hw b ⟨fun k => (hb.1 k).2, fun k => hb.2 ⟨h, k⟩⟩) ?_;(repeat' (first |refine qv ?_ |apply qn |apply qt));exact ⟨⟨[], _, _, AK _ _ _, rfl, AA _, rfl, ⟨⟨⟨_, rfl, BLe.cells (AB _)⟩, rfl⟩, trivial⟩, rfl, rfl⟩⟩
theorem indexP_ok (o : LZ) (f : PZ → Bool) (ps : List PZ) (hl : ps.length ≤ 1000000) (hf : ∀ p ∈ ps, IoFn Tryz.prog 175 ([aP p] ++ [.ptr 900 0]) (lB o) (.ret (aB (f p))) (lB o)) :
  IoFn Tryz.prog 200 [.sl 2 eP ps, .fn 175 [.ptr 900 0]] (lB o) (.ret (aN (idxI f ps 0))) (lB o) := by
 refine AG Tryz.func200 rfl Tryz.ntmps200 rfl rfl rfl ?_;(repeat' (first |refine qv ?_ |apply qn |apply qs |apply qr |apply qb));refine AWP.loop (G := Nat) (fun i => i ≤ ps.length ∧ idxI f (ps.drop i) i = idxI f ps 0) (fun i => AU [900] [(0, .sl 2 eP ps), (1, .fn 175 [.ptr 900 0]), (7, aN ps.length), (8, aN i)] [(900, .cells (eL o) 99)]) (fun i => ps.length - i) 0 ⟨by omega, by simp⟩ ?_ ?_
 ·refine Ent.of [] ?_ ?_ rfl rfl;(repeat' (first |exact True.intro |refine ⟨⟨AA _, rfl⟩, ?_⟩ |refine ⟨⟨⟨_, rfl, BLe.cells (AB _)⟩, rfl⟩, ?_⟩|fail))
 ·intro i ⟨k0, k1⟩;(repeat' (first |refine qv ?_ |apply qn |apply qs |apply qr |(refine AD rfl ?_ ?_ <;> intro _ <;> try (exfalso; omega)) |apply qb |apply qk |apply qx |apply qt |(refine Aw rfl rfl rfl rfl rfl rfl rfl rfl (by omega) (by omega) ?_; intro _ _)|fail))
  ·rename_i hi p hp;rw [Int.toNat_natCast] at hp;have hd := EA (f := f) hp;refine Dg rfl rfl [] (hf p (List.mem_of_getElem? hp)) rfl rfl (AB _) rfl ⟨⟨⟨_, rfl, BLe.cells (AB _)⟩, rfl⟩, trivial⟩ rfl rfl rfl rfl rfl ?_;(repeat' (first |refine qv ?_ |apply qn |apply qs |apply qr |refine qw ?_ |apply qk |apply qt |(refine BN rfl ?_ ?_ <;> intro _)))
   ·rename_i hb;rw [if_pos hb] at hd;refine ⟨⟨[], _, _, AK _ _ _, rfl, AV.Le.int ?_, rfl, ⟨⟨⟨_, rfl, BLe.cells (AB _)⟩, rfl⟩, trivial⟩, rfl, rfl⟩⟩;rw [← k1, hd]
   ·rename_i hb;rw [if_neg (by rw [hb]; simp)] at hd;refine LoopEnd.of (i + 1) ⟨by omega, by rw [← k1, hd]⟩ (by omega) ?_;refine Ent.of [] ?_ ?_ rfl rfl;(repeat' (first |exact True.intro |refine ⟨⟨AA _, rfl⟩, ?_⟩ |refine ⟨⟨⟨_, rfl, BLe.cells (AB _)⟩, rfl⟩, ?_⟩|fail))
  ·refine ⟨⟨[], _, _, AK _ _ _, rfl, AV.Le.int ?_, rfl, ⟨⟨⟨_, rfl, BLe.cells (AB _)⟩, rfl⟩, trivial⟩, rfl, rfl⟩⟩;rw [← k1, List.drop_of_length_le (by omega)]; rfl
theorem containsP_ok (o : LZ) (f : PZ → Bool) (ps : List PZ) (hl : ps.length ≤ 1000000) (hf : ∀ p ∈ ps, IoFn Tryz.prog 175 ([aP p] ++ [.ptr 900 0]) (lB o) (.ret (aB (f p))) (lB o)) :
  IoFn Tryz.prog 174 [.sl 2 eP ps, .fn 175 [.ptr 900 0]] (lB o) (.ret (aB (ps.any f))) (lB o) := by
 refine AG Tryz.func174 rfl Tryz.ntmps174 rfl rfl rfl ?_;have h := indexP_ok o f ps hl hf;have he := EB f ps 0 (by omega);(repeat' (first |refine qv ?_ |apply qn |apply qs |apply qr));refine qi [] h ?_;(repeat' (first |refine qv ?_ |apply qn |apply qt));exact ⟨⟨[], _, _, AK _ _ _, rfl, AV.Le.bool he, rfl, ⟨⟨⟨_, rfl, BLe.cells (AB _)⟩, rfl⟩, trivial⟩, rfl, rfl⟩⟩
abbrev sB (s : SZ) : List (AL.Id × Bx) := [(900, .cells [aN s.vars, .sl 3 eL s.links] 39)]
theorem indexL_ok (o : SZ) (f : LZ → Bool) (ps : List LZ) (hl : ps.length ≤ 1000000) (hf : ∀ p ∈ ps, IoFn Tryz.prog 134 ([aL p] ++ [.ptr 900 0]) (sB o) (.ret (aB (f p))) (sB o)) :
  IoFn Tryz.prog 172 [.sl 3 eL ps, .fn 134 [.ptr 900 0]] (sB o) (.ret (aN (idxI f ps 0))) (sB o) := by
 refine AG Tryz.func172 rfl Tryz.ntmps172 rfl rfl rfl ?_;(repeat' (first |refine qv ?_ |apply qn |apply qs |apply qr |apply qb));refine AWP.loop (G := Nat) (fun i => i ≤ ps.length ∧ idxI f (ps.drop i) i = idxI f ps 0) (fun i => AU [900] [(0, .sl 3 eL ps), (1, .fn 134 [.ptr 900 0]), (7, aN ps.length), (8, aN i)] [(900, .cells [aN o.vars, .sl 3 eL o.links] 39)]) (fun i => ps.length - i) 0 ⟨by omega, by simp⟩ ?_ ?_
 ·refine Ent.of [] ?_ ?_ rfl rfl;(repeat' (first |exact True.intro |refine ⟨⟨AA _, rfl⟩, ?_⟩ |refine ⟨⟨⟨_, rfl, BLe.cells (AB _)⟩, rfl⟩, ?_⟩|fail))
 ·intro i ⟨k0, k1⟩;(repeat' (first |refine qv ?_ |apply qn |apply qs |apply qr |(refine AD rfl ?_ ?_ <;> intro _ <;> try (exfalso; omega)) |apply qb |apply qk |apply qx |apply qt |(refine Aw rfl rfl rfl rfl rfl rfl rfl rfl (by omega) (by omega) ?_; intro _ _)|fail))
  ·rename_i hi p hp;rw [Int.toNat_natCast] at hp;have hd := EA (f := f) hp;refine Dg rfl rfl [] (hf p (List.mem_of_getElem? hp)) rfl rfl (AB _) rfl ⟨⟨⟨_, rfl, BLe.cells (AB _)⟩, rfl⟩, trivial⟩ rfl rfl rfl rfl rfl ?_;(repeat' (first |refine qv ?_ |apply qn |apply qs |apply qr |refine qw ?_ |apply qk |apply qt |(refine BN rfl ?_ ?_ <;> intro _)))
   ·rename_i hb;rw [if_pos hb] at hd;refine ⟨⟨[], _, _, AK _ _ _, rfl, AV.Le.int ?_, rfl, ⟨⟨⟨_, rfl, BLe.cells (AB _)⟩, rfl⟩, trivial⟩, rfl, rfl⟩⟩;rw [← k1, hd]
   ·rename_i hb;rw [if_neg (by rw [hb]; simp)] at hd;refine LoopEnd.of (i + 1) ⟨by omega, by rw [← k1, hd]⟩ (by omega) ?_;refine Ent.of [] ?_ ?_ rfl rfl;(repeat' (first |exact True.intro |refine ⟨⟨AA _, rfl⟩, ?_⟩ |refine ⟨⟨⟨_, rfl, BLe.cells (AB _)⟩, rfl⟩, ?_⟩|fail))
  ·refine ⟨⟨[], _, _, AK _ _ _, rfl, AV.Le.int ?_, rfl, ⟨⟨⟨_, rfl, BLe.cells (AB _)⟩, rfl⟩, trivial⟩, rfl, rfl⟩⟩;rw [← k1, List.drop_of_length_le (by omega)]; rfl
theorem containsL_ok (o : SZ) (f : LZ → Bool) (ps : List LZ) (hl : ps.length ≤ 1000000) (hf : ∀ p ∈ ps, IoFn Tryz.prog 134 ([aL p] ++ [.ptr 900 0]) (sB o) (.ret (aB (f p))) (sB o)) :
  IoFn Tryz.prog 133 [.sl 3 eL ps, .fn 134 [.ptr 900 0]] (sB o) (.ret (aB (ps.any f))) (sB o) := by
 refine AG Tryz.func133 rfl Tryz.ntmps133 rfl rfl rfl ?_;have h := indexL_ok o f ps hl hf;have he := EB f ps 0 (by omega);(repeat' (first |refine qv ?_ |apply qn |apply qs |apply qr));refine qi [] h ?_;(repeat' (first |refine qv ?_ |apply qn |apply qt));exact ⟨⟨[], _, _, AK _ _ _, rfl, AV.Le.bool he, rfl, ⟨⟨⟨_, rfl, BLe.cells (AB _)⟩, rfl⟩, trivial⟩, rfl, rfl⟩⟩
end Go.Proofs.YtmmfloplhopioaaGreat
namespace Go.AL
def lastI (d : Int) : List Int → Int
  | [] => d
  | x :: l => lastI x l
theorem incB_drop {last top : Int} : ∀ {l : List Int} {i : Nat} {v : Int}, l[i]? = some v → (incB (lastI last (l.take i)) top (l.drop i) ↔ lastI last (l.take i) < v ∧ v < top ∧ incB (lastI last (l.take (i + 1))) top (l.drop (i + 1)))
 | [], _, _, h => by simp at h
 | x :: l, 0, v, h => by simp at h; subst h; simp [lastI, incB]
 | x :: l, i + 1, v, h => by
  simp only [List.take_succ_cons, List.drop_succ_cons, lastI];exact incB_drop (last := x) (by simpa using h)
theorem lastI_snoc {d : Int} : ∀ {l : List Int} {i : Nat} {v : Int}, l[i]? = some v → lastI d (l.take (i + 1)) = v
 | [], _, _, h => by simp at h
 | x :: l, 0, v, h => by simp at h; subst h; simp [lastI]
 | x :: l, i + 1, v, h => by
  simp only [List.take_succ_cons, lastI];exact lastI_snoc (d := x) (by simpa using h)
end Go.AL
namespace Go.Proofs.YtmmfloplhopioaaGreat
open Go.AL
set_option maxHeartbeats 1000000 in
theorem link_ok (l : LZ) (vars : Int) (hw : WL l) (f : PZ → Bool) (hf : ∀ p ∈ l.polys, f p = true ↔ p.vars = l.vars.length ∧ OkP p) (b : Bool) (hb : b = true ↔ OkL vars l) : PureFn Tryz.prog 135 [aL l, aN vars] (aB b) := by
 refine AC Tryz.func135 rfl Tryz.ntmps135 rfl rfl ?_
 have hfalse : ¬ OkL vars l → false = b := fun h => by cases b with | false => rfl | true => exact absurd (hb.1 rfl) h
 have hn3 : BT l.kind ≤ 3 ∧ 0 ≤ BT l.kind := by unfold BT; repeat' split <;> omega
 (repeat' (first |refine qv ?_ |apply qn |apply qs |apply qr |refine qe ?_|fail));refine qc (needs_ok l.kind) ?_;(repeat' (first |refine qv ?_ |apply qn |refine Fl.nil (fun _ => by kernel_rfl) ?_ |apply qs |apply qr |refine Fl.skip rfl rfl ?_ |refine AM rfl ?_ |apply qt |(refine AH rfl rfl ?_ ?_ <;> intro _ <;> try (exfalso; omega))))
 ·rename_i h; exact RetOk.of rfl (AV.Le.bool (hfalse fun k => k.kind h))
 refine qc (needs_ok l.kind) ?_;(repeat' (first |refine qv ?_ |apply qn |refine Fl.nil (fun _ => by kernel_rfl) ?_ |apply qs |apply qr |refine Fl.skip rfl rfl ?_ |refine AM rfl ?_ |(refine AD rfl ?_ ?_ <;> intro _ <;> try (exfalso; omega)) |apply qb |apply qk |apply qt |(refine DG rfl rfl ?_ ?_ <;> intro _ <;> try (exfalso; omega))))
 ·rename_i h; exact RetOk.of rfl (AV.Le.bool (hfalse fun k => h k.len))
 ·rename_i h; exact RetOk.of rfl (AV.Le.bool (hfalse fun k => by have := k.vlen; omega))
 rename_i hk hlen hvl;refine AWP.loop (G := Nat) (fun i => i ≤ l.vars.length ∧ (incB (lastI (-1) (l.vars.take i)) vars (l.vars.drop i) ↔ incB (-1) vars l.vars)) (fun i => AU [] [(1, aN vars), (2, .ptr 2 0), (5, aN (lastI (-1) (l.vars.take i))), (28, aI l.vars), (29, aN l.vars.length), (30, aN i)] [(2, .cells (eL l) 99)]) (fun i => l.vars.length - i) 0 ⟨by omega, by simp [lastI]⟩ ?_ ?_
 ·refine Ent.of [] ?_ ?_ rfl rfl;(repeat' (first |exact True.intro |refine ⟨⟨AA _, rfl⟩, ?_⟩ |refine ⟨⟨⟨_, rfl, BLe.cells (AB _)⟩, rfl⟩, ?_⟩|fail))
 ·intro i ⟨k0, k1⟩;(repeat' (first |refine qv ?_ |apply qn |apply qs |apply qr |refine qw ?_ |refine Fl.skip rfl rfl ?_ |refine AM rfl ?_ |(refine AD rfl ?_ ?_ <;> intro _ <;> try (exfalso; omega)) |apply qb |apply qk |apply qx |apply qt |(refine Aw rfl rfl rfl rfl rfl rfl rfl rfl (by omega) (by omega) ?_; intro _ _) |(refine AH rfl rfl ?_ ?_ <;> intro _ <;> try (exfalso; omega))))
  ·rename_i hi v hv h1;rw [Int.toNat_natCast] at hv;rw [incB_drop hv] at k1;refine RetOk.of rfl (AV.Le.bool (hfalse fun k => ?_));have := k1.2 k.inc;omega
  ·rename_i hi v hv h1 h2;rw [Int.toNat_natCast] at hv;rw [incB_drop hv] at k1;refine RetOk.of rfl (AV.Le.bool (hfalse fun k => ?_));have := k1.2 k.inc;omega
  ·rename_i hi v hv h1 h2;rw [Int.toNat_natCast] at hv;rw [incB_drop hv] at k1;refine LoopEnd.of (i + 1) ⟨by omega, ?_⟩ (by omega) ?_
   ·rw [← k1];exact ⟨fun h => ⟨by omega, by omega, h⟩, fun h => h.2.2⟩
   ·refine Ent.of [] ?_ ?_ rfl rfl;(repeat' (first |exact True.intro |refine ⟨⟨AA _, rfl⟩, ?_⟩ |refine ⟨⟨⟨_, rfl, BLe.cells (AB _)⟩, rfl⟩, ?_⟩ |refine ⟨⟨AV.Le.int ?_, rfl⟩, ?_⟩|fail));exact (lastI_snoc hv).symm
  ·rename_i hi;have hd : l.vars.drop i = [] := List.drop_of_length_le (by omega);rw [hd] at k1;have hinc : incB (-1) vars l.vars := k1.1 trivial;have hc := containsP_ok l (fun p => !f p) l.polys (by omega) (fun p hp => link1_ok l p (hw p hp) (f p) (hf p hp));refine qi [(900, 2)] hc ?_;(repeat' (first |refine qv ?_ |apply qn |apply qt));refine RetOk.of rfl (AV.Le.bool ?_)
   have : (!l.polys.any fun p => !f p) = true ↔ OkL vars l := by
    rw [Bool.not_eq_true', List.any_eq_false];refine ⟨fun h => ⟨hk, hlen, by omega, hinc, fun p hp => (hf p hp).1 ?_⟩, fun k p hp => ?_⟩
    ·have := h p hp;simpa using this
    ·have := (hf p hp).2 (k.polys p hp);simp [this]
   cases b with
   | true => exact this.2 (hb.1 rfl)
   | false => exact Bool.eq_false_iff.2 fun h => by have := hb.2 (this.1 h); cases this
end Go.Proofs.YtmmfloplhopioaaGreat
namespace Go.AL
theorem boolOf {α : Type} (p : α → Prop) : ∃ f : α → Bool, ∀ a, f a = true ↔ p a := ⟨fun a => @decide (p a) (Classical.propDecidable _), fun a => @decide_eq_true_iff _ (Classical.propDecidable _)⟩
def atOf (X : List Int) (vs : List Int) : List Int := vs.map fun v => X.getD v.toNat 0
theorem atOf_fit {X : List Int} (h : ∀ x ∈ X, Fit x) (vs : List Int) : ∀ x ∈ atOf X vs, Fit x := fun x hx => by
 obtain ⟨v, _, rfl⟩ := List.mem_map.1 hx;show Fit (X.getD v.toNat 0);rw [List.getD_eq_getElem?_getD]
 cases hq : X[v.toNat]? with
 | none => exact Fit.zero
 | some y => exact h y (List.mem_of_getElem? hq)
theorem incB_mem {last top : Int} : ∀ {l : List Int} {v : Int}, incB last top l → v ∈ l → last < v ∧ v < top
 | [], _, _, h => by simp at h
 | x :: l, v, ⟨h1, h2, h3⟩, h => by
  rcases List.mem_cons.1 h with rfl | h
  ·exact ⟨h1, h2⟩
  ·have := incB_mem h3 h;omega
theorem atOf_snoc {X vs : List Int} {i : Nat} {v x : Int} (h : vs[i]? = some v) (hx : X[v.toNat]? = some x) : atOf X (vs.take (i + 1)) = atOf X (vs.take i) ++ [x] := by
 rw [Ad h];simp [atOf, hx]
end Go.AL
namespace Go.Proofs.YtmmfloplhopioaaGreat
open Go.AL
theorem Valid1_ok (s : SZ) (l : LZ) (hw : WL l) (b : Bool) (hb : b = true ↔ OkL s.vars l) : IoFn Tryz.prog 134 [aL l, .ptr 900 0] (sB s) (.ret (aB !b)) (sB s) := by
 refine AG Tryz.func134 rfl Tryz.ntmps134 rfl rfl rfl ?_;obtain ⟨f, hf⟩ := boolOf (fun p : PZ => p.vars = l.vars.length ∧ OkP p);(repeat' (first |refine qv ?_ |apply qn |apply qs |apply qr |refine qe ?_|fail));refine qc (link_ok l s.vars hw f (fun p _ => hf p) b hb) ?_;(repeat' (first |refine qv ?_ |apply qn |apply qt));exact ⟨⟨[], _, _, AK _ _ _, rfl, AA _, rfl, ⟨⟨⟨_, rfl, BLe.cells (AB _)⟩, rfl⟩, trivial⟩, rfl, rfl⟩⟩
theorem sValid_ok (s : SZ) (hw : WS s) (b : Bool) (hb : b = true ↔ OkS s) : PureFn Tryz.prog 71 [aS s] (aB b) := by
 refine AC Tryz.func71 rfl Tryz.ntmps71 rfl rfl ?_
 have hfalse : ¬ OkS s → false = b := fun h => by cases b with | false => rfl | true => exact absurd (hb.1 rfl) h
 obtain ⟨f, hf⟩ := boolOf (fun l : LZ => OkL s.vars l);(repeat' (first |refine qv ?_ |apply qn |apply qs |apply qr |refine qe ?_ |refine Fl.skip rfl rfl ?_ |apply qt |(refine AH rfl rfl ?_ ?_ <;> intro _ <;> try (exfalso; omega))))
 ·rename_i h0 h1 h2;refine qi [(900, 1)] (containsL_ok s (fun l => !f l) s.links (by omega) (fun l hl => Valid1_ok s l (hw l hl) (f l) (hf l))) ?_;(repeat' (first |refine qv ?_ |apply qn |apply qt));refine RetOk.of rfl (AV.Le.bool ?_)
  have : (!s.links.any fun l => !f l) = true ↔ OkS s := by
   rw [Bool.not_eq_true', List.any_eq_false];refine ⟨fun h => ⟨h0, h1, by omega, fun l hl => (hf l).1 ?_⟩, fun k l hl => ?_⟩
   ·have := h l hl;simpa using this
   ·have := (hf l).2 (k.links l hl);simp [this]
  cases b with
  | true => exact this.2 (hb.1 rfl)
  | false => exact Bool.eq_false_iff.2 fun h => by have := hb.2 (this.1 h); cases this
 ·rename_i h0 h1 h2; exact RetOk.of rfl (AV.Le.bool (hfalse fun k => by have := k.len; omega))
 ·rename_i h0 h1; exact RetOk.of rfl (AV.Le.bool (hfalse fun k => by have := k.v1; omega))
 ·rename_i h0; exact RetOk.of rfl (AV.Le.bool (hfalse fun k => by have := k.v0; omega))
theorem Values_ok (l : LZ) (X : List Int) (hw : WL l) (hL : OkL X.length l) (hX : ∀ x ∈ X, Fit x) (r : AV) (hr1 : (∀ p ∈ l.polys, EvOk (atOf X l.vars) p) → r = .tup [.sl 2 eX (l.polys.map (pv (atOf X l.vars))), aN 0]) (hr2 : ¬ (∀ p ∈ l.polys, EvOk (atOf X l.vars) p) → r = .tup [.v (.slice none 0 0), aN 4]) :
  PureFn Tryz.prog 72 [aL l, .sl 2 eX X] r := by
 refine AC Tryz.func72 rfl Tryz.ntmps72 rfl rfl ?_;have hvl := hL.vlen
 have hn3 : BT l.kind ≤ 3 := by unfold BT; repeat' split <;> omega
 have hpl := hL.len;have hfa := atOf_fit hX l.vars
 have hla : (atOf X l.vars).length = l.vars.length := by simp [atOf]
 (repeat' (first |refine qv ?_ |apply qn |apply qs |apply qr |refine qe ?_ |apply qb));refine Am (Dh 6 806 rfl rfl 2 eX 48) ?_;refine AWP.loop (G := Nat) (fun i => i ≤ l.vars.length) (fun i => AU [] [(1, .sl 2 eX X), (2, .ptr 2 0), (6, .row 6), (7, .v (.slice none 0 0)), (15, aI l.vars), (16, aN l.vars.length), (17, aN i)] [(2, .cells (eL l) 99), (6, .row 2 eX (atOf X (l.vars.take i)) 48)]) (fun i => l.vars.length - i) 0 (by omega) ?_ ?_
 ·refine Ent.of [(6, 806)] ?_ ?_ rfl rfl;(repeat' (first |exact True.intro |refine ⟨⟨AA _, rfl⟩, ?_⟩ |refine ⟨⟨⟨_, rfl, BLe.cells (AB _)⟩, rfl⟩, ?_⟩ |refine ⟨⟨⟨_, rfl, BLe.row rfl⟩, rfl⟩, ?_⟩|fail))
 ·intro i k0
  have hli : (atOf X (l.vars.take i)).length = i := by simp [atOf]; omega
  (repeat' (first |refine qv ?_ |apply qn |apply qs |apply qr |(refine AD rfl ?_ ?_ <;> intro _ <;> try (exfalso; omega)) |apply qb |apply qk |apply qx |(refine Aw rfl rfl rfl rfl rfl rfl rfl rfl (by omega) (by omega) ?_; intro _ _)|fail))
  ·rename_i hi v hv;rw [Int.toNat_natCast] at hv;have hvb := incB_mem hL.inc (List.mem_of_getElem? hv);(repeat' (first |refine qv ?_ |(refine Aw rfl rfl rfl rfl rfl rfl rfl rfl (by omega) (by omega) ?_; intro _ _)|fail));rename_i x hx;refine ql eX [x] ?_;refine qa (hby := (by dsimp only [List.length_nil, List.length_cons]; omega)) (hm := (by simp; omega)) (r := ?_);(repeat' (first |refine qv ?_ |apply qn |apply qr |refine qw ?_|fail));refine LoopEnd.of (i + 1) (by omega) (by omega) ?_;refine Ent.of [(6, 27)] ?_ ?_ rfl rfl;(repeat' (first |exact True.intro |refine ⟨⟨AA _, rfl⟩, ?_⟩ |refine ⟨⟨⟨_, rfl, BLe.cells (AB _)⟩, rfl⟩, ?_⟩ |refine ⟨⟨⟨_, rfl, BLe.row ?_⟩, rfl⟩, ?_⟩|fail));exact (atOf_snoc hv hx).symm
  ·rename_i hi;have hti : l.vars.take i = l.vars := List.take_of_length_le (by omega);refine Am (Ent.freeze 6 rfl) ?_;refine Am (Dh 7 807 rfl rfl 2 eX 48) ?_;refine AWP.loop (G := Nat) (fun j => j ≤ l.polys.length ∧ ∀ p ∈ l.polys.take j, EvOk (atOf X l.vars) p) (fun j => AU [] [(2, .ptr 2 0), (6, .sl 2 eX (atOf X l.vars)), (7, .row 7), (30, .sl 2 eP l.polys), (31, aN l.polys.length), (32, aN j)] [(2, .cells (eL l) 99), (7, .row 2 eX ((l.polys.take j).map (pv (atOf X l.vars))) 48)]) (fun j => l.polys.length - j) 0 ⟨by omega, by simp⟩ ?_ ?_
   ·refine Ent.of [(7, 807)] ?_ ?_ rfl rfl;(repeat' (first |exact True.intro |refine ⟨⟨AA _, rfl⟩, ?_⟩ |refine ⟨⟨⟨_, rfl, BLe.cells (AB _)⟩, rfl⟩, ?_⟩ |refine ⟨⟨⟨_, rfl, BLe.row rfl⟩, rfl⟩, ?_⟩ |refine ⟨⟨AV.Le.sl ?_, rfl⟩, ?_⟩|fail));rw [hti]
   ·clear hi hti hli k0 i; intro j ⟨k0, k1⟩
    have hlj : ((l.polys.take j).map (pv (atOf X l.vars))).length = j := by simp; omega
    (repeat' (first |refine qv ?_ |apply qn |apply qs |apply qr |refine qe ?_ |(refine AD rfl ?_ ?_ <;> intro _ <;> try (exfalso; omega)) |apply qb |apply qk |apply qx |apply qt |(refine Aw rfl rfl rfl rfl rfl rfl rfl rfl (by omega) (by omega) ?_; intro _ _)|fail))
    ·rename_i hj p hp;rw [Int.toNat_natCast] at hp;have hpm := List.mem_of_getElem? hp;have hpo := hL.polys p hpm;have hev := fun r h1 h2 => Eval_ok p (atOf X l.vars) (hw p hpm) hpo.2 (by rw [hla]; exact hpo.1.symm) hfa r h1 h2;by_cases he : EvOk (atOf X l.vars) p
     ·have hev1 := hev _ (fun _ => rfl) (fun h => absurd he h);refine qc (hev1) ?_;(repeat' (first |refine qv ?_ |apply qn |apply qs |apply qr |refine qe ?_ |refine AF rfl ?_ |apply qk));refine ql eX [pv (atOf X l.vars) p] ?_;refine qa (hby := (by dsimp only [List.length_nil, List.length_cons]; omega)) (hm := (by simp; omega)) (r := ?_);(repeat' (first |refine qv ?_ |apply qn |apply qr |refine qw ?_|fail));refine LoopEnd.of (j + 1) ⟨by omega, BW hp k1 he⟩ (by omega) ?_;refine Ent.of [(7, 48)] ?_ ?_ rfl rfl;(repeat' (first |exact True.intro |refine ⟨⟨AA _, rfl⟩, ?_⟩ |refine ⟨⟨⟨_, rfl, BLe.cells (AB _)⟩, rfl⟩, ?_⟩ |refine ⟨⟨⟨_, rfl, BLe.row ?_⟩, rfl⟩, ?_⟩|fail));rw [Ad hp, List.map_append]; rfl
     ·have hev1 := hev _ (fun h => absurd h he) (fun _ => rfl);rw [hr2 fun h => he (h p hpm)];refine qc (hev1) ?_;(repeat' (first |refine qv ?_ |apply qn |apply qs |apply qr |refine qe ?_ |refine AM rfl ?_ |apply qt));exact RetOk.of rfl (AA _)
    ·rename_i hj;have htj : l.polys.take j = l.polys := List.take_of_length_le (by omega);rw [htj] at k1;rw [hr1 k1];refine Ap (Ent.freeze 7 rfl) ?_;refine RetOk.of rfl ?_;rw [htj];exact AA _
end Go.Proofs.YtmmfloplhopioaaGreat
namespace Go.AL
theorem I64.iff {x : Int} : I64 x ↔ -9223372036854775808 ≤ x ∧ x ≤ 9223372036854775807 := Iff.rfl
def holdP (k : Int) (vs : List Int) : Prop :=
  if k = 1 then 2 ≤ vs.getD 0 0 ∧ 1 ≤ vs.getD 1 0 ∧ psiN (vs.getD 0 0) (vs.getD 1 0).toNat = vs.getD 2 0
  else if k = 2 then 1 ≤ vs.getD 0 0 ∧ 0 ≤ vs.getD 1 0 ∧ (vs.getD 0 0) ^ (vs.getD 1 0).toNat = vs.getD 2 0
  else if k = 3 then 0 ≤ vs.getD 0 0 ∧ 0 ≤ vs.getD 1 0 ∧ undI (vs.getD 0 0) (vs.getD 1 0)
  else vs.getD 0 0 = 0
end Go.AL
namespace Go.Proofs.YtmmfloplhopioaaGreat
open Go.AL
theorem isPsi_ok (x y z : Int) (hx : Fit x) (hy : Fit y) (hz : Fit z) (b : Bool) (hb : b = true ↔ 2 ≤ x ∧ 1 ≤ y ∧ psiN x y.toNat = z) : PureFn Tryz.prog 137 [.sl 2 eX [x, y, z]] (aB b) := by
 refine AC Tryz.func137 rfl Tryz.ntmps137 rfl rfl ?_
 have hfalse : ¬ (2 ≤ x ∧ 1 ≤ y ∧ psiN x y.toNat = z) → false = b := fun h => by cases b with | false => rfl | true => exact absurd (hb.1 rfl) h
 have g0 : [x, y, z][(0 : Int).toNat]? = some x := rfl;have g1 : [x, y, z][(1 : Int).toNat]? = some y := rfl;have g2 : [x, y, z][(2 : Int).toNat]? = some z := rfl;have hl : [x, y, z].length = 3 := rfl;(repeat' (first |refine qv ?_ |apply qn |apply qs |apply qr |refine qK ?_|fail));refine qc (CM 2 (by omega) (by omega)) ?_;refine qc (Less_ok x 2 hx fit_two) ?_;(repeat' (first |refine qv ?_ |apply qn |refine Fl.nil (fun _ => by kernel_rfl) ?_ |apply qs |apply qr |refine Fl.skip rfl rfl ?_ |refine AM rfl ?_ |apply qt |refine qK ?_ |(refine AH rfl rfl ?_ ?_ <;> intro _ <;> try (exfalso; omega))))
 ·rename_i h;exact RetOk.of rfl (AV.Le.bool (hfalse fun k => by omega))
 ·rename_i h;refine qc (CM 1 (by omega) (by omega)) ?_;refine qc (Less_ok y 1 hy BU) ?_;(repeat' (first |refine qv ?_ |apply qn |refine Fl.nil (fun _ => by kernel_rfl) ?_ |apply qs |apply qr |(refine AD rfl ?_ ?_ <;> intro _ <;> try (exfalso; omega)) |apply qk |apply qt |refine qK ?_|fail))
  ·exact RetOk.of rfl (AV.Le.bool (hfalse fun k => by omega))
  ·rename_i h1;have hsm := Small_ok y hy;by_cases hI : I64 y
   ·have hI2 := I64.iff.1 hI;rw [if_pos hI, decide_eq_true hI] at hsm;refine qc (hsm) ?_;(repeat' (first |refine qv ?_ |apply qn |apply qs |apply qr |refine AF rfl ?_ |apply qk |refine qK ?_|fail));have hps := Psi_ok x y hx (by omega) (by omega) (by omega);by_cases hf : Fit (psiN x y.toNat)
    ·rw [Eg hf] at hps;refine qc (hps) ?_;(repeat' (first |refine qv ?_ |apply qn |apply qs |apply qr |refine qe ?_ |refine qK ?_ |(refine AH rfl rfl ?_ ?_ <;> intro _ <;> try (exfalso; omega))));refine qc (Same_ok _ z hf hz) ?_;(repeat' (first |refine qv ?_ |refine Fl.nil (fun _ => by kernel_rfl) ?_ |apply qt));refine RetOk.of rfl (AV.Le.bool ?_)
     cases b with
     | false => exact decide_eq_false fun k => by have := hb.2 ⟨by omega, by omega, k⟩; cases this
     | true => exact decide_eq_true (hb.1 rfl).2.2
    ·rw [Dy hf] at hps;refine qc (hps) ?_;(repeat' (first |refine qv ?_ |apply qn |refine Fl.nil (fun _ => by kernel_rfl) ?_ |apply qs |apply qr |refine qe ?_ |refine Fl.skip rfl rfl ?_ |apply qt));exact RetOk.of rfl (AV.Le.bool (hfalse fun k => hf (by rw [k.2.2]; exact hz)))
   ·rw [if_neg hI, decide_eq_false hI] at hsm;refine qc (hsm) ?_;(repeat' (first |refine qv ?_ |apply qn |apply qs |apply qr |refine AM rfl ?_ |apply qt));refine RetOk.of rfl (AV.Le.bool (hfalse fun k => ?_));refine psi_not_fit (a := x) (n := y.toNat) (by omega) ?_ (by rw [k.2.2]; exact hz);rw [I64.iff] at hI;omega
theorem isPower_ok (x y z : Int) (hx : Fit x) (hy : Fit y) (hz : Fit z) (b : Bool) (hb : b = true ↔ 1 ≤ x ∧ 0 ≤ y ∧ x ^ y.toNat = z) : PureFn Tryz.prog 138 [.sl 2 eX [x, y, z]] (aB b) := by
 refine AC Tryz.func138 rfl Tryz.ntmps138 rfl rfl ?_
 have hfalse : ¬ (1 ≤ x ∧ 0 ≤ y ∧ x ^ y.toNat = z) → false = b := fun h => by cases b with | false => rfl | true => exact absurd (hb.1 rfl) h
 have g0 : [x, y, z][(0 : Int).toNat]? = some x := rfl;have g1 : [x, y, z][(1 : Int).toNat]? = some y := rfl;have g2 : [x, y, z][(2 : Int).toNat]? = some z := rfl;have hl : [x, y, z].length = 3 := rfl;(repeat' (first |refine qv ?_ |apply qn |apply qs |apply qr));refine qc (CM 1 (by omega) (by omega)) ?_;(repeat' (first |refine qv ?_ |apply qn |apply qs |apply qr |refine qe ?_ |refine qK ?_|fail));refine qc (Less_ok x 1 hx BU) ?_;(repeat' (first |refine qv ?_ |apply qn |refine Fl.nil (fun _ => by kernel_rfl) ?_ |apply qs |apply qr |refine Fl.skip rfl rfl ?_ |refine AM rfl ?_ |(refine AD rfl ?_ ?_ <;> intro _ <;> try (exfalso; omega)) |apply qk |apply qt |refine qK ?_ |(refine AH rfl rfl ?_ ?_ <;> intro _ <;> try (exfalso; omega))))
 ·rename_i h;exact RetOk.of rfl (AV.Le.bool (hfalse fun k => by omega))
 ·rename_i h h1;exact RetOk.of rfl (AV.Le.bool (hfalse fun k => by omega))
 ·rename_i h h1;refine qc (Same_ok x 1 hx BU) ?_;(repeat' (first |refine qv ?_ |refine Fl.nil (fun _ => by kernel_rfl) ?_ |apply qs |apply qr |(refine AD rfl ?_ ?_ <;> intro _ <;> try (exfalso; omega)) |apply qk |refine qK ?_|fail))
  ·rename_i h2;refine qc (Same_ok z 1 hz BU) ?_;(repeat' (first |refine qv ?_ |refine Fl.nil (fun _ => by kernel_rfl) ?_ |apply qt));refine RetOk.of rfl (AV.Le.bool ?_);subst h2
   cases b with
   | false => exact decide_eq_false fun k => by have := hb.2 ⟨by omega, by omega, by rw [Int.one_pow, k]⟩; cases this
   | true => exact decide_eq_true (by have := (hb.1 rfl).2.2; rw [Int.one_pow] at this; exact this.symm)
  ·rename_i h2;have hsm := Small_ok y hy;have hbig : 131072 < y → ¬ (1 ≤ x ∧ 0 ≤ y ∧ x ^ y.toNat = z) := fun h k => pow_not_fit (x := x) (n := y.toNat) (by omega) (by omega) (by rw [k.2.2]; exact hz);by_cases hI : I64 y
   ·have hI2 := I64.iff.1 hI;rw [if_pos hI, decide_eq_true hI] at hsm;refine qc (hsm) ?_;(repeat' (first |refine qv ?_ |apply qn |apply qs |apply qr |(refine AD rfl ?_ ?_ <;> intro _ <;> try (exfalso; omega)) |apply qk |apply qt |refine qK ?_|fail))
    ·rename_i h3;exact RetOk.of rfl (AV.Le.bool (hfalse (hbig h3)))
    ·have hps := Power_ok x y hx (by omega) (by omega);by_cases hf : Fit (x ^ y.toNat)
     ·rw [Eg hf] at hps;refine qc (hps) ?_;(repeat' (first |refine qv ?_ |apply qn |apply qs |apply qr |refine qe ?_ |refine qK ?_ |(refine AH rfl rfl ?_ ?_ <;> intro _ <;> try (exfalso; omega))));refine qc (Same_ok _ z hf hz) ?_;(repeat' (first |refine qv ?_ |refine Fl.nil (fun _ => by kernel_rfl) ?_ |apply qt));refine RetOk.of rfl (AV.Le.bool ?_)
      cases b with
      | false => exact decide_eq_false fun k => by have := hb.2 ⟨by omega, by omega, k⟩; cases this
      | true => exact decide_eq_true (hb.1 rfl).2.2
     ·rw [Dy hf] at hps;refine qc (hps) ?_;(repeat' (first |refine qv ?_ |apply qn |refine Fl.nil (fun _ => by kernel_rfl) ?_ |apply qs |apply qr |refine qe ?_ |refine Fl.skip rfl rfl ?_ |apply qt));exact RetOk.of rfl (AV.Le.bool (hfalse fun k => hf (by rw [k.2.2]; exact hz)))
   ·rw [if_neg hI, decide_eq_false hI] at hsm;refine qc (hsm) ?_;(repeat' (first |refine qv ?_ |apply qn |apply qs |apply qr |refine Fl.skip rfl rfl ?_ |refine AM rfl ?_ |apply qt));refine RetOk.of rfl (AV.Le.bool (hfalse (hbig ?_)));rw [I64.iff] at hI;omega
theorem holds_ok (k : Int) (vs : List Int) (hk : BT k ≠ 0) (hl : (vs.length : Int) = BT k) (hX : ∀ x ∈ vs, Fit x) (b : Bool) (hb : b = true ↔ holdP k vs) : PureFn Tryz.prog 73 [aN k, .sl 2 eX vs] (aB b) := by
 refine AC Tryz.func73 rfl Tryz.ntmps73 rfl rfl ?_
 have hk4 : k = 0 ∨ k = 1 ∨ k = 2 ∨ k = 3 := by
  unfold BT at hk;by_cases h0 : k = 0
  ·omega
  by_cases h1 : k = 1
  ·omega
  by_cases h2 : k = 2
  ·omega
  by_cases h3 : k = 3
  ·omega
  simp [h0, h1, h2, h3] at hk
 rcases hk4 with rfl | rfl | rfl | rfl
 ·have hl : vs.length = 1 := by simp [BT] at hl; omega
  obtain ⟨x, rfl⟩ : ∃ x, vs = [x] := by
   match vs, hl with
   | [x], _ => exact ⟨x, rfl⟩
  have g0 : [x][(0 : Int).toNat]? = some x := rfl;have hll : [x].length = 1 := rfl;(repeat' (first |refine qv ?_ |apply qn |apply qs |apply qr |refine AF rfl ?_ |apply qb |apply qk |apply qt |refine qK ?_|fail));refine RetOk.of rfl (AV.Le.bool ?_)
  have hx0 : ((toW x.natAbs).length : Int) = 0 ↔ x = 0 := by
   have := A8 (z := x.natAbs) (by omega);rw [← List.length_eq_zero_iff] at this;omega
  have hb2 : b = true ↔ x = 0 := hb
  cases b with
  | false => exact decide_eq_false fun k => by have := hb2.2 (hx0.1 k); cases this
  | true => exact decide_eq_true (hx0.2 (hb2.1 rfl))
 ·have hl : vs.length = 3 := by simp [BT] at hl; omega
  obtain ⟨x, y, z, rfl⟩ : ∃ x y z, vs = [x, y, z] := by
   match vs, hl with
   | [x, y, z], _ => exact ⟨x, y, z, rfl⟩
  (repeat' (first |refine qv ?_ |apply qn |apply qs |apply qr |refine AM rfl ?_ |apply qb));refine qc (isPsi_ok x y z (hX x (by simp)) (hX y (by simp)) (hX z (by simp)) b hb) ?_;(repeat' (first |refine qv ?_ |apply qn |apply qt));exact RetOk.of rfl (AA _)
 ·have hl : vs.length = 3 := by simp [BT] at hl; omega
  obtain ⟨x, y, z, rfl⟩ : ∃ x y z, vs = [x, y, z] := by
   match vs, hl with
   | [x, y, z], _ => exact ⟨x, y, z, rfl⟩
  (repeat' (first |refine qv ?_ |apply qn |apply qs |apply qr |refine AM rfl ?_ |refine AF rfl ?_ |apply qb));refine qc (isPower_ok x y z (hX x (by simp)) (hX y (by simp)) (hX z (by simp)) b hb) ?_;(repeat' (first |refine qv ?_ |apply qn |apply qt));exact RetOk.of rfl (AA _)
 ·have hl : vs.length = 2 := by simp [BT] at hl; omega
  obtain ⟨x, y, rfl⟩ : ∃ x y, vs = [x, y] := by
   match vs, hl with
   | [x, y], _ => exact ⟨x, y, rfl⟩
  have g0 : [x, y][(0 : Int).toNat]? = some x := rfl;have g1 : [x, y][(1 : Int).toNat]? = some y := rfl;have hll : [x, y].length = 2 := rfl;have hx := hX x (by simp);have hy := hX y (by simp);(repeat' (first |refine qv ?_ |apply qn |apply qs |apply qr |refine AM rfl ?_ |refine AF rfl ?_ |apply qb |refine qK ?_|fail));refine qc (Under_ok x y hx hy) ?_;(repeat' (first |refine qv ?_ |apply qn |refine Fl.nil (fun _ => by kernel_rfl) ?_ |apply qs |apply qr |refine Fl.skip rfl rfl ?_ |apply qt |(refine AH rfl rfl ?_ ?_ <;> intro _ <;> try (exfalso; omega))))
  ·rename_i h;refine RetOk.of rfl (AV.Le.bool ?_);have hbt : b = true := hb.2 h;rw [hbt];exact decide_eq_true (if_neg (by omega))
  ·rename_i h;refine RetOk.of rfl (AV.Le.bool ?_)
   cases b with
   | false => rfl
   | true => exact absurd (hb.1 rfl) h
end Go.Proofs.YtmmfloplhopioaaGreat
namespace Go.AL
def CX (f g : LZ → Bool) : List LZ → Bool × Int
  | [] => (true, 0)
  | l :: ls => if f l then (if g l then CX f g ls else (false, 0)) else (false, 4)
def EvL (X : List Int) (l : LZ) : Prop := ∀ p ∈ l.polys, EvOk (atOf X l.vars) p
def lvals (X : List Int) (l : LZ) : List Int := l.polys.map (pv (atOf X l.vars))
def HoL (X : List Int) (l : LZ) : Prop := holdP l.kind (lvals X l)
theorem pv_fit {X : List Int} {p : PZ} (h : EvOk X p) : Fit (pv X p) := by
 have b1 := PS_take X p.terms p.terms.length;have b2 := OS_take X p.terms p.terms.length;rw [List.take_length] at b1 b2;exact fit_sum h.1 h.2 b1.1 b2.1
theorem lvals_fit {X : List Int} {l : LZ} (h : EvL X l) : ∀ x ∈ lvals X l, Fit x := fun x hx => by
 obtain ⟨p, hp, rfl⟩ := List.mem_map.1 hx;exact pv_fit (h p hp)
theorem holdsR_drop {f g : LZ → Bool} {ls : List LZ} {i : Nat} {l : LZ} (h : ls[i]? = some l) : CX f g (ls.drop i) = if f l then (if g l then CX f g (ls.drop (i + 1)) else (false, 0)) else (false, 4) := by
 have hi := (List.getElem?_eq_some_iff.1 h).1;rw [List.drop_eq_getElem_cons hi, (List.getElem?_eq_some_iff.1 h).2];rfl
end Go.AL
namespace Go.Proofs.YtmmfloplhopioaaGreat
open Go.AL
theorem Holds_ok (s : SZ) (X : List Int) (hw : WS s) (hs : OkS s) (hX : ∀ x ∈ X, Fit x) (hlen : (X.length : Int) = s.vars) (hnat : ∀ x ∈ X, 0 ≤ x) (f g : LZ → Bool) (hf : ∀ l, f l = true ↔ EvL X l) (hg : ∀ l, g l = true ↔ HoL X l) : PureFn Tryz.prog 30 [aS s, .sl 2 eX X] (.tup [aB (CX f g s.links).1, aN (CX f g s.links).2]) := by
 refine AC Tryz.func30 rfl Tryz.ntmps30 rfl rfl ?_;have hv1 := hs.v1;have hsl := hs.len;(repeat' (first |refine qv ?_ |apply qn |apply qs |apply qr |refine qe ?_|fail));refine qc (sValid_ok s hw true ⟨fun _ => hs, fun _ => rfl⟩) ?_;(repeat' (first |refine qv ?_|fail));refine qc (chValidX_ok X hX (by omega)) ?_;(repeat' (first |refine qv ?_ |apply qn |apply qs |apply qr |refine AF rfl ?_ |apply qk |(refine DG rfl rfl ?_ ?_ <;> intro _ <;> try (exfalso; omega))));have hv := chNatural_ok X (by omega);rw [decide_eq_true hnat] at hv;refine qc (hv) ?_;(repeat' (first |refine qv ?_ |apply qn |apply qs |apply qr |refine AF rfl ?_ |apply qb |apply qk));refine AWP.loop (G := Nat) (fun i => i ≤ s.links.length ∧ CX f g (s.links.drop i) = CX f g s.links) (fun i => AU [] [(1, .sl 2 eX X), (29, .sl 3 eL s.links), (30, aN s.links.length), (31, aN i)] []) (fun i => s.links.length - i) 0 ⟨by omega, rfl⟩ ?_ ?_
 ·refine Ent.of [] ?_ ?_ rfl rfl;(repeat' (first |exact True.intro |refine ⟨⟨AA _, rfl⟩, ?_⟩|fail))
 ·intro i ⟨k0, k1⟩;(repeat' (first |refine qv ?_ |apply qn |apply qs |apply qr |refine qe ?_ |(refine AD rfl ?_ ?_ <;> intro _ <;> try (exfalso; omega)) |apply qb |apply qk |apply qx |apply qt |(refine Aw rfl rfl rfl rfl rfl rfl rfl rfl (by omega) (by omega) ?_; intro _ _)|fail))
  ·rename_i hi l hl;rw [Int.toNat_natCast] at hl;have hlm := List.mem_of_getElem? hl;rw [holdsR_drop hl] at k1;have hL := hs.links l hlm;rw [← hlen] at hL;have hvs := fun r h1 h2 => Values_ok l X (hw l hlm) hL hX r h1 h2;by_cases he : EvL X l
   ·rw [if_pos ((hf l).2 he)] at k1;have hvs1 := hvs _ (fun _ => rfl) (fun h => absurd he h);refine qc (hvs1) ?_;(repeat' (first |refine qv ?_ |apply qn |apply qs |apply qr |refine AF rfl ?_ |apply qk));have hho := holds_ok l.kind (lvals X l) hL.kind (by rw [lvals, List.length_map]; exact hL.len) (lvals_fit he) (g l) (hg l);refine qc (hho) ?_;(repeat' (first |refine qv ?_ |apply qn |apply qs |apply qr |refine qw ?_ |apply qk |apply qt |(refine BN rfl ?_ ?_ <;> intro _)))
    ·rename_i hb;rw [if_neg (by simpa using hb)] at k1;rw [← k1];exact RetOk.of rfl (AA _)
    ·rename_i hb;rw [if_pos (by simpa using hb)] at k1;refine LoopEnd.of (i + 1) ⟨by omega, k1⟩ (by omega) ?_;refine Ent.of [] ?_ ?_ rfl rfl;(repeat' (first |exact True.intro |refine ⟨⟨AA _, rfl⟩, ?_⟩|fail))
   ·rw [if_neg (fun h => he ((hf l).1 h))] at k1;have hvs1 := hvs _ (fun h => absurd h he) (fun _ => rfl);refine qc (hvs1) ?_;(repeat' (first |refine qv ?_ |apply qn |apply qs |apply qr |refine AM rfl ?_ |apply qt));rw [← k1];exact RetOk.of rfl (AA _)
  ·rename_i hi;rw [List.drop_of_length_le (by omega)] at k1;rw [← k1];exact RetOk.of rfl (AA _)
end Go.Proofs.YtmmfloplhopioaaGreat
namespace Go.AL
structure CT where
  v : Int
  e : Int
  p : Int
  w : Int
  u : Int
  d : Int
def stepC (c : CT) (l : LZ) : CT :=
  if l.kind = 0 then { c with e := c.e + 1, d := match l.polys with | [] => c.d | p :: _ => if pdeg p > c.d then pdeg p else c.d }
  else if l.kind = 1 then { c with p := c.p + 1 }
  else if l.kind = 2 then { c with w := c.w + 1 }
  else { c with u := c.u + 1 }
def CTb (i : Int) (c : CT) : Prop := 0 ≤ c.e ∧ c.e ≤ i ∧ 0 ≤ c.p ∧ c.p ≤ i ∧ 0 ≤ c.w ∧ c.w ≤ i ∧ 0 ≤ c.u ∧ c.u ≤ i
theorem CTb.step {i : Int} {c : CT} (h : CTb i c) (l : LZ) : CTb (i + 1) (stepC c l) := by
 obtain ⟨h1, h2, h3, h4, h5, h6, h7, h8⟩ := h;unfold stepC;repeat' split
 all_goals exact ⟨by dsimp only; omega, by dsimp only; omega, by dsimp only; omega, by dsimp only; omega, by dsimp only; omega, by dsimp only; omega, by dsimp only; omega, by dsimp only; omega⟩
theorem kinds {k : Int} (hk : BT k ≠ 0) : k = 0 ∨ k = 1 ∨ k = 2 ∨ k = 3 := by
 unfold BT at hk;by_cases h0 : k = 0
 ·omega
 by_cases h1 : k = 1
 ·omega
 by_cases h2 : k = 2
 ·omega
 by_cases h3 : k = 3
 ·omega
 simp [h0, h1, h2, h3] at hk
end Go.AL
namespace Go.Proofs.YtmmfloplhopioaaGreat
open Go.AL
end Go.Proofs.YtmmfloplhopioaaGreat
namespace Go.AL
end Go.AL
namespace Go.Proofs.YtmmfloplhopioaaGreat
open Go.AL
end Go.Proofs.YtmmfloplhopioaaGreat
namespace Go.AL
theorem Bw {a : Int} (h : 0 ≤ a) : bitN .and a 4294967295 = a % 4294967296 := by
 show ((a.toNat &&& (4294967295 : Int).toNat : Nat) : Int) = a % 4294967296;rw [show (4294967295 : Int).toNat = 2 ^ 32 - 1 from rfl, Nat.and_two_pow_sub_one_eq_mod];omega
end Go.AL
namespace Go.Proofs.YtmmfloplhopioaaGreat
open Go.AL
theorem rZero_ok (z : Z) : PureFn Tryz.prog 77 [aZ z] (aB (decide (z.w.length = 0))) := by
 refine AC Tryz.func77 rfl Tryz.ntmps77 rfl rfl ?_;(repeat' (first |refine qv ?_ |apply qn |apply qs |apply qr |refine qe ?_ |apply qt));refine RetOk.of rfl (AV.Le.bool ?_);simp
theorem rZeroX_ok (x : Int) : PureFn Tryz.prog 77 [aX x] (aB (decide (x = 0))) := by
 have h := rZero_ok (zOf x)
 have e : decide ((zOf x).w.length = 0) = decide (x = 0) := by
  rw [decide_eq_decide];show (toW x.natAbs).length = 0 ↔ x = 0;have := A8 (z := x.natAbs) (by omega);rw [List.length_eq_zero_iff, this]; omega
 rwa [e] at h
theorem D2 (neg : Bool) (l : List Int) (hl : WOk l) (hb : l.length ≤ 100000) : PureFn Tryz.prog 54 [aB neg, aW l] (aX (sg neg (val l))) := by
 refine AC Tryz.func54 rfl Tryz.ntmps54 rfl rfl ?_;have hv := As hl;have hab : ((sg neg (val l)).natAbs : Int) = val l := sg_abs _ hv;refine AE ?_;(repeat' (first |apply qn |apply qr |refine qe ?_|fail));refine ⟨AE ?_⟩;(repeat' (first |refine qv ?_ |apply qn |apply qr));refine ⟨?_⟩;refine Cb (G := Int) (fun n => 0 ≤ n ∧ n ≤ l.length ∧ l.take n.toNat = toW (val l)) (fun n => AU [] [(0, aB neg), (1, aW l), (4, .ptr 4 0), (5, aN n)] [(4, .cells [aB false, .v (.slice none 0 0)] 48)]) ?_ ?_
 ·(repeat' (first |apply qb));refine AWP.loop (G := Int) (fun n => 0 ≤ n ∧ n ≤ l.length ∧ Az (l.take n.toNat) = Az l) (fun n => AU [] [(0, aB neg), (1, aW l), (4, .ptr 4 0), (5, aN n)] [(4, .cells [aB false, .v (.slice none 0 0)] 48)]) (fun n => n.toNat) (l.length : Int) ⟨by omega, by omega, by simp⟩ ?_ ?_
  ·refine Ent.of [] ?_ ?_ rfl rfl;(repeat' (first |exact True.intro |refine ⟨⟨AA _, rfl⟩, ?_⟩ |refine ⟨⟨⟨_, rfl, BLe.cells (AB _)⟩, rfl⟩, ?_⟩|fail))
  ·intro n ⟨h0, h1, h2⟩;(repeat' (first |refine qv ?_ |apply qn |apply qs |apply qr |refine qw ?_ |refine Fl.skip rfl rfl ?_ |refine AF rfl ?_ |(refine AD rfl ?_ ?_ <;> intro _ <;> try (exfalso; omega)) |apply qb |apply qk |apply qx |(refine B5 rfl rfl rfl rfl rfl rfl rfl rfl (by omega) (by omega) (by assumption) ?_; intro _ _ _ _) |(refine AH rfl rfl ?_ ?_ <;> intro _ <;> try (exfalso; omega))))
   ·rename_i hn e he he0 he1 hz;subst hz;refine LoopEnd.of (n - 1) ⟨by omega, by omega, ?_⟩ (by omega) ?_
    ·rw [← h2, trimL_take0 (by omega) he]
    ·refine Ent.of [] ?_ ?_ rfl rfl;(repeat' (first |exact True.intro |refine ⟨⟨AA _, rfl⟩, ?_⟩ |refine ⟨⟨⟨_, rfl, BLe.cells (AB _)⟩, rfl⟩, ?_⟩|fail))
   ·rename_i hn e he he0 he1 hz;refine JoinOk.of n ⟨h0, h1, ?_⟩ ?_
    ·rw [← CA hl, ← h2, trimL_take1 (by omega) he hz]
    ·refine Ent.of [] ?_ ?_ rfl rfl;(repeat' (first |exact True.intro |refine ⟨⟨AA _, rfl⟩, ?_⟩ |refine ⟨⟨⟨_, rfl, BLe.cells (AB _)⟩, rfl⟩, ?_⟩|fail))
   ·rename_i hn;refine JoinOk.of n ⟨h0, h1, ?_⟩ ?_
    ·have : n = 0 := by omega
     subst this;rw [← CA hl, ← h2]; simp [Az]
    ·refine Ent.of [] ?_ ?_ rfl rfl;(repeat' (first |exact True.intro |refine ⟨⟨AA _, rfl⟩, ?_⟩ |refine ⟨⟨⟨_, rfl, BLe.cells (AB _)⟩, rfl⟩, ?_⟩|fail))
 ·intro n ⟨h0, h1, h2⟩
  have h3 : (l.take n.toNat).length = n := by rw [List.length_take]; omega
  (repeat' (first |refine qv ?_ |apply qn |apply qs |apply qr |refine qw ?_ |refine qe ?_ |refine Fl.skip rfl rfl ?_ |(refine Fl.splitB rfl rfl ?_ ?_ <;> (fail_if_success (intro hb_; exact absurd hb_ (by decide))) <;> intro _)|fail))
  all_goals
   rename_i hneg;refine Fl.ap0 rfl rfl rfl rfl rfl rfl rfl rfl eW rfl rfl (fun _ => rfl) (fun _ => rfl) (AA _) (by dsimp only [List.length_nil]; omega) (by omega) ?_;(repeat' (first |refine qv ?_ |apply qn |refine Fl.nil (fun _ => by kernel_rfl) ?_ |apply qs |apply qr |refine qe ?_ |apply qt));refine Ap (Ent.freeze 32 rfl) ?_;refine RetOk.of rfl (AR (aX_of ?_ ?_))
  ·subst hneg;simp only [sg, if_true];have := A8 hv;rw [h2] at h3;by_cases h0 : val l = 0
   ·rw [h0, toW_zero] at h3;simp at h3;rw [h0, ← h3]; rfl
   ·have h4 : (toW (val l)).length ≠ 0 := fun h => h0 (this.1 (List.eq_nil_of_length_eq_zero h));rw [decide_eq_decide]; omega
  ·rw [hab, h2]
  ·subst hneg;simp [sg]; omega
  ·rw [hab, h2]
theorem sameWords_ok (a b : List Int) (ha : a.length ≤ 1000000) (wa : WOk a) (wb : WOk b) : PureFn Tryz.prog 53 [aW a, aW b] (aB (decide (a = b))) := by
 refine AC Tryz.func53 rfl Tryz.ntmps53 rfl rfl ?_;(repeat' (first |refine qv ?_ |apply qn |apply qs |apply qr |(refine Aa rfl ?_ ?_ <;> intro _ <;> try (exfalso; omega)) |apply qb |apply qk |apply qt))
 ·rename_i h;exact RetOk.of rfl (AV.Le.bool (Eq.symm (decide_eq_false fun k => h (by rw [k]))))
 ·rename_i hlen;refine AWP.loop (G := Nat) (fun i => i ≤ a.length ∧ a.take i = b.take i) (fun i => AU [] [(0, aW a), (1, aW b), (5, aN i)] []) (fun i => a.length - i) 0 ⟨by omega, by simp⟩ ?_ ?_
  ·refine Ent.of [] ?_ ?_ rfl rfl;(repeat' (first |exact True.intro |refine ⟨⟨AA _, rfl⟩, ?_⟩|fail))
  ·intro i ⟨h0, h1⟩;(repeat' (first |refine qv ?_ |apply qn |refine Fl.nil (fun _ => by kernel_rfl) ?_ |apply qs |apply qr |refine qw ?_ |(refine AD rfl ?_ ?_ <;> intro _ <;> try (exfalso; omega)) |(refine Aa rfl ?_ ?_ <;> intro _ <;> try (exfalso; omega)) |apply qb |apply qk |apply qx |apply qt |(refine B5 rfl rfl rfl rfl rfl rfl rfl rfl (by omega) (by omega) (by assumption) ?_; intro _ _ _ _)|fail))
   ·rename_i hi x hx _ _ y hy _ _ hne;rw [Int.toNat_natCast] at hx hy;refine RetOk.of rfl (AV.Le.bool (Eq.symm (decide_eq_false fun k => ?_)));subst k;rw [hx] at hy; cases hy;exact hne rfl
   ·rename_i hi x hx _ _ y hy _ _ heq;rw [Int.toNat_natCast] at hx hy;refine LoopEnd.of (i + 1) ⟨by omega, ?_⟩ (by omega) ?_
    ·rw [Ad hx, Ad hy, h1, heq]
    ·refine Ent.of [] ?_ ?_ rfl rfl;(repeat' (first |exact True.intro |refine ⟨⟨AA _, rfl⟩, ?_⟩|fail))
   ·refine RetOk.of rfl (AV.Le.bool (Eq.symm (decide_eq_true ?_)));rwa [List.take_of_length_le (by omega), List.take_of_length_le (by omega)] at h1
theorem rSame_ok (x y : Int) (hx : (toW x.natAbs).length ≤ 1000000) : PureFn Tryz.prog 17 [aX x, aX y] (aB (decide (x = y))) := by
 refine AC Tryz.func17 rfl Tryz.ntmps17 rfl rfl ?_;(repeat' (first |refine qv ?_ |apply qn |apply qs |apply qr |refine qe ?_ |refine Fl.skip rfl rfl ?_ |apply qt |(refine AH rfl rfl ?_ ?_ <;> intro _ <;> try (exfalso; omega))))
 ·rename_i h;refine qc (sameWords_ok (toW x.natAbs) (toW y.natAbs) hx (Ak _) (Ak _)) ?_;(repeat' (first |refine qv ?_ |apply qn |apply qt));refine RetOk.of rfl (AV.Le.bool ?_);rw [decide_eq_decide];rw [decide_eq_decide] at h;refine ⟨fun k => ?_, fun k => by rw [k]⟩;have := toW_inj (by omega) (by omega) k;omega
 ·rename_i h;exact RetOk.of rfl (AV.Le.bool (Eq.symm (decide_eq_false fun k => h (by rw [k]))))
theorem rOf_ok (n : Int) (h0 : -9223372036854775808 ≤ n) (h1 : n ≤ 9223372036854775807) : PureFn Tryz.prog 18 [aN n] (aX n) := by
 refine AC Tryz.func18 rfl Tryz.ntmps18 rfl rfl ?_;(repeat' (first |refine qv ?_ |apply qn |apply qs |apply qr |refine qw ?_ |refine qe ?_ |(refine AD rfl ?_ ?_ <;> intro _ <;> try (exfalso; omega)) |apply qk |refine Fl.cvU rfl rfl rfl rfl rfl rfl ?_))
 all_goals
  refine ql eW [_, _] ?_;refine Fl.call rfl (D2 (decide (n < 0)) _ (WOk.cons (by omega) (by omega) (WOk.cons (by omega) (by omega) WOk.nil)) (by simp)) rfl rfl rfl (AB _) ?_;(repeat' (first |apply qn |refine qe ?_ |apply qt));refine RetOk.of rfl (AV.Le.agg (leX (σ := []) ?_));simp only [val, p32];rw [Bw (by omega)];simp only [sg]; simp; split <;> omega
end Go.Proofs.YtmmfloplhopioaaGreat
namespace Go.AL
def padW : Nat → Int → List Int
  | 0, _ => []
  | n + 1, v => v % 4294967296 :: padW n (v / 4294967296)
theorem padW_ok : ∀ (n : Nat) (v : Int), WOk (padW n v)
 | 0, _ => WOk.nil
 | n + 1, v => WOk.cons (by omega) (by omega) (padW_ok n _)
theorem padW_len : ∀ (n : Nat) (v : Int), (padW n v).length = n
 | 0, _ => rfl
 | n + 1, v => by simp [padW, padW_len n]
theorem padW_of : ∀ {l : List Int}, WOk l → l = padW l.length (val l)
 | [], _ => rfl
 | x :: l, h => by
  have h1 := h.head;have h2 := padW_of h.tail;simp only [List.length_cons, padW, val];rw [show (x + 4294967296 * val l) % 4294967296 = x by omega, show (x + 4294967296 * val l) / 4294967296 = val l by omega, ← h2]
theorem padW_val : ∀ {n : Nat} {v : Int}, 0 ≤ v → v < BB n → val (padW n v) = v
 | 0, v, h0, h1 => by rw [DB] at h1; simp [padW, val]; omega
 | n + 1, v, h0, h1 => by
  rw [BC] at h1;simp only [padW, val];rw [padW_val (by omega) (by omega)];omega
theorem ER {os A B : List Int} {c x y s : Int} (hA : val (A.take (os.length + 1)) = val (A.take os.length) + BB os.length * x) (hB : val (B.take (os.length + 1)) = val (B.take os.length) + BB os.length * y)
  (h : val os + BB os.length * c = val (A.take os.length) + val (B.take os.length)) (hs : s = c + x + y) :
  val (os ++ [s % 4294967296]) + BB (os.length + 1) * (s / 4294967296) = val (A.take (os.length + 1)) + val (B.take (os.length + 1)) := by
 rw [Bq, hA, hB, BC]
 have h1 : s = s % 4294967296 + 4294967296 * (s / 4294967296) := by omega
 generalize s % 4294967296 = p at h1;generalize s / 4294967296 = q at h1;subst hs;grind
end Go.AL
namespace Go.Proofs.YtmmfloplhopioaaGreat
open Go.AL
theorem rorder_ok (x y : Int) (hx : 0 ≤ x) (hy : 0 ≤ y) (hxl : (toW x).length ≤ 100000) (hyl : (toW y).length ≤ 100000) : PureFn Tryz.prog 131 [aW (toW x), aW (toW y)] (aN (cmpI x y)) := by
 refine AC Tryz.func131 rfl Tryz.ntmps131 rfl rfl ?_;have wx := Ak x;have wy := Ak y;(repeat' (first |refine qv ?_ |apply qn |apply qs |apply qr |refine qw ?_ |(refine AD rfl ?_ ?_ <;> intro _ <;> try (exfalso; omega)) |(refine Aa rfl ?_ ?_ <;> intro _ <;> try (exfalso; omega)) |apply qb |apply qk |apply qt))
 ·refine RetOk.of rfl (AR ?_);rw [cmpI_lt (Ce hx hy (by omega))]
 ·refine RetOk.of rfl (AR ?_);rw [cmpI_gt (Ce hy hx (by omega))]
 ·rename_i hl;refine AWP.loop (G := Int) (fun i => -1 ≤ i ∧ i < (toW x).length ∧ (toW x).drop (i + 1).toNat = (toW y).drop (i + 1).toNat) (fun i => AU [] [(0, aW (toW x)), (1, aW (toW y)), (5, aN i)] []) (fun i => (i + 1).toNat) ((toW x).length - 1 : Int) ⟨by omega, by omega, by rw [List.drop_of_length_le (by omega), List.drop_of_length_le (by omega)]⟩ ?_ ?_
  ·refine Ent.of [] ?_ ?_ rfl rfl;(repeat' (first |exact True.intro |refine ⟨⟨AA _, rfl⟩, ?_⟩|fail))
  ·intro i ⟨h0, h1, h2⟩;have hsx := Ah hx;have hsy := Ah hy;(repeat' (first |refine qv ?_ |apply qn |refine Fl.nil (fun _ => by kernel_rfl) ?_ |apply qs |apply qr |refine qw ?_ |(refine AD rfl ?_ ?_ <;> intro _ <;> try (exfalso; omega)) |apply qb |apply qk |apply qx |apply qt |refine qK ?_ |(refine B5 rfl rfl rfl rfl rfl rfl rfl rfl (by omega) (by omega) (by assumption) ?_; intro _ _ _ _)|fail))
   ·rename_i hi u hu _ _ v hv _ _ huv;refine RetOk.of rfl (AR ?_);have := val_lt_at wx wy hu hv (by rw [show i.toNat + 1 = (i + 1).toNat by omega]; exact h2) huv;rw [cmpI_lt (by omega)]
   ·rename_i hi u hu _ _ v hv _ _ _ huv;refine RetOk.of rfl (AR ?_);have := val_lt_at wy wx hv hu (by rw [show i.toNat + 1 = (i + 1).toNat by omega]; exact h2.symm) huv;rw [cmpI_gt (by omega)]
   ·rename_i hi u hu _ _ v hv _ _ huv hvu;refine LoopEnd.of (i - 1) ⟨by omega, by omega, ?_⟩ (by omega) ?_
    ·have := drop_eq_of hu hv (by rw [show i.toNat + 1 = (i + 1).toNat by omega]; exact h2) (by omega);rwa [show (i - 1 + 1).toNat = i.toNat by omega]
    ·refine Ent.of [] ?_ ?_ rfl rfl;(repeat' (first |exact True.intro |refine ⟨⟨AA _, rfl⟩, ?_⟩|fail))
   ·refine RetOk.of rfl (AR ?_)
    have : i = -1 := by omega
    subst this;rw [show ((-1 : Int) + 1).toNat = 0 from rfl, List.drop_zero, List.drop_zero] at h2;rw [cmpI_eq (by rw [← hsx, ← hsy, h2])]
theorem rplus_ok (A B : List Int) (wA : WOk A) (wB : WOk B) (hA : A.length ≤ 50000) (hB : B.length ≤ 50000) (N : Nat) (hN : N = (if B.length > A.length then B.length else A.length) + 1) : PureFn Tryz.prog 130 [aW A, aW B] (aW (padW N (val A + val B))) := by
 refine AC Tryz.func130 rfl Tryz.ntmps130 rfl rfl ?_
 have hN1 : (if (B.length : Int) > (A.length : Int) then (B.length : Int) else (A.length : Int)) + 1 = (N : Int) := by
  rw [hN]; split <;> split <;> omega
 have hNa : A.length < N ∧ B.length < N ∧ N ≤ 50001 := by rw [hN]; split <;> omega
 (repeat' (first |refine qv ?_ |apply qn |apply qs |apply qr |refine qw ?_ |apply qb |refine Bp rfl rfl rfl rfl rfl rfl rfl rfl rfl rfl eW 0 (by exact AB _) (by rfl) (by first | omega | (dsimp only; omega)) (by first | omega | (dsimp only; omega)) (by first | omega | (dsimp only; omega)) ?_|fail));refine AWP.loop (G := List Int × Int) (fun (os, c) => os.length ≤ N ∧ WOk os ∧ 0 ≤ c ∧ c ≤ 1 ∧ val os + BB os.length * c = val (A.take os.length) + val (B.take os.length))
  (fun (os, c) => AU [] [(0, aW A), (1, aW B), (5, aN N), (6, .row 16), (7, aU c), (8, aN os.length)] [(16, .row 1 eW (os ++ List.replicate (N - os.length) 0) 94)])
  (fun (os, c) => N - os.length) ([], 0) ⟨by simp, WOk.nil, by omega, by omega, by simp [val, BB]⟩ ?_ ?_
 ·refine Ent.of [] ?_ ?_ rfl rfl;(repeat' (first |exact True.intro |refine ⟨⟨AA _, rfl⟩, ?_⟩ |refine ⟨⟨⟨_, rfl, BLe.row ?_⟩, rfl⟩, ?_⟩ |refine ⟨⟨AV.Le.int ?_, rfl⟩, ?_⟩|fail))
  ·exact hN1
  ·rw [hN1]; simp
 ·intro ⟨os, c⟩ ⟨h0, h1, h2, h3, h4⟩
  have hl : (os ++ List.replicate (N - os.length) 0).length = N := by simp; omega
  (repeat' (first |refine qv ?_ |apply qn |apply qs |apply qr |refine qw ?_ |(refine AD rfl ?_ ?_ <;> intro _ <;> try (exfalso; omega)) |apply qb |apply qk |apply qx |apply qt |(refine B5 rfl rfl rfl rfl rfl rfl rfl rfl (by omega) (by omega) (by assumption) ?_; intro _ _ _ _) |refine Aq rfl rfl rfl rfl rfl rfl rfl rfl (by omega) (by first | omega | (simp; omega)) ?_ |refine A9 rfl rfl rfl rfl rfl rfl rfl rfl rfl rfl rfl (AB _) rfl (by first | omega | (simp; omega)) ?_|fail))
  ·rename_i hi hiA u hu hu0 hu1 hiB v hv hv0 hv1;rw [Int.toNat_natCast] at hu;rw [Int.toNat_natCast] at hv;have hstep := ER (x := u) (y := v) (Ag hu) (Ag hv) h4 rfl;refine LoopEnd.of (os ++ [(c + u + v) % 4294967296], (c + u + v) / 4294967296) ⟨by simp; omega, h1.append (WOk.cons (by omega) (by omega) WOk.nil), by omega, by omega, by rw [List.length_append]; exact hstep⟩ (by simp only [List.length_append, List.length_cons, List.length_nil]; omega) ?_;refine Ent.of [] ?_ ?_ rfl rfl;(repeat' (first |exact True.intro |refine ⟨⟨AA _, rfl⟩, ?_⟩ |refine ⟨⟨⟨_, rfl, BLe.row ?_⟩, rfl⟩, ?_⟩ |refine ⟨⟨AV.Le.int ?_, rfl⟩, ?_⟩|fail))
   all_goals first
    | exact CP (by simp) (by simp; omega) (by rw [Bw (by omega)]; omega)
    | (rw [p32]; omega)
    | (simp; done)
  ·rename_i hi hiA u hu hu0 hu1 hiB;rw [Int.toNat_natCast] at hu;have hstep := ER (x := u) (y := 0) (Ag hu) (Bf (by omega)) h4 rfl;refine LoopEnd.of (os ++ [(c + u + 0) % 4294967296], (c + u + 0) / 4294967296) ⟨by simp; omega, h1.append (WOk.cons (by omega) (by omega) WOk.nil), by omega, by omega, by rw [List.length_append]; exact hstep⟩ (by simp only [List.length_append, List.length_cons, List.length_nil]; omega) ?_;refine Ent.of [] ?_ ?_ rfl rfl;(repeat' (first |exact True.intro |refine ⟨⟨AA _, rfl⟩, ?_⟩ |refine ⟨⟨⟨_, rfl, BLe.row ?_⟩, rfl⟩, ?_⟩ |refine ⟨⟨AV.Le.int ?_, rfl⟩, ?_⟩|fail))
   all_goals first
    | exact CP (by simp) (by simp; omega) (by rw [Bw (by omega)]; omega)
    | (rw [p32]; omega)
    | (simp; done)
  ·rename_i hi hiA hiB v hv hv0 hv1;rw [Int.toNat_natCast] at hv;have hstep := ER (x := 0) (y := v) (Bf (by omega)) (Ag hv) h4 rfl;refine LoopEnd.of (os ++ [(c + 0 + v) % 4294967296], (c + 0 + v) / 4294967296) ⟨by simp; omega, h1.append (WOk.cons (by omega) (by omega) WOk.nil), by omega, by omega, by rw [List.length_append]; exact hstep⟩ (by simp only [List.length_append, List.length_cons, List.length_nil]; omega) ?_;refine Ent.of [] ?_ ?_ rfl rfl;(repeat' (first |exact True.intro |refine ⟨⟨AA _, rfl⟩, ?_⟩ |refine ⟨⟨⟨_, rfl, BLe.row ?_⟩, rfl⟩, ?_⟩ |refine ⟨⟨AV.Le.int ?_, rfl⟩, ?_⟩|fail))
   all_goals first
    | exact CP (by simp) (by simp; omega) (by rw [Bw (by omega)]; omega)
    | (rw [p32]; omega)
    | (simp; done)
  ·rename_i hi hiA hiB;have hstep := ER (x := 0) (y := 0) (Bf (by omega)) (Bf (by omega)) h4 rfl;refine LoopEnd.of (os ++ [(c + 0 + 0) % 4294967296], (c + 0 + 0) / 4294967296) ⟨by simp; omega, h1.append (WOk.cons (by omega) (by omega) WOk.nil), by omega, by omega, by rw [List.length_append]; exact hstep⟩ (by simp only [List.length_append, List.length_cons, List.length_nil]; omega) ?_;refine Ent.of [] ?_ ?_ rfl rfl;(repeat' (first |exact True.intro |refine ⟨⟨AA _, rfl⟩, ?_⟩ |refine ⟨⟨⟨_, rfl, BLe.row ?_⟩, rfl⟩, ?_⟩ |refine ⟨⟨AV.Le.int ?_, rfl⟩, ?_⟩|fail))
   all_goals first
    | exact CP (by simp) (by simp; omega) (by rw [Bw (by omega)]; omega)
    | (rw [p32]; omega)
    | (simp; done)
  ·rename_i hi
   have hlen : os.length = N := by omega
   rw [hlen, List.take_of_length_le (by omega), List.take_of_length_le (by omega)] at h4;refine Ap (Ent.freeze 16 rfl) ?_;refine RetOk.of rfl (AV.Le.sl ?_);have b1 := DJ wA;have b2 := DJ wB;have b3 := BB_le (show A.length ≤ N - 1 by omega);have b4 := BB_le (show B.length ≤ N - 1 by omega)
   have b5 : BB N = 4294967296 * BB (N - 1) := by rw [← BC]; congr 1; omega
   have b6 := Bc (N - 1);have b7 := As h1
   have hc : c = 0 := by
    have : c = 0 ∨ c = 1 := by omega
    rcases this with h | h
    ·exact h
    ·subst h; omega
   subst hc;rw [hlen, Nat.sub_self, List.replicate_zero, List.append_nil, padW_of h1, hlen];congr 1;omega
end Go.Proofs.YtmmfloplhopioaaGreat
namespace Go.Proofs.YtmmfloplhopioaaGreat
open Go.AL
theorem rminus_ok (A B : List Int) (wA : WOk A) (wB : WOk B) (hA : A.length ≤ 50000) (hlB : B.length ≤ A.length) (hle : val B ≤ val A) : PureFn Tryz.prog 132 [aW A, aW B] (aW (padW A.length (val A - val B))) := by
 refine AC Tryz.func132 rfl Tryz.ntmps132 rfl rfl ?_;(repeat' (first |refine qv ?_ |apply qn |apply qs |apply qr |apply qb |refine Bp rfl rfl rfl rfl rfl rfl rfl rfl rfl rfl eW 0 (by exact AB _) (by rfl) (by first | omega | (dsimp only; omega)) (by first | omega | (dsimp only; omega)) (by first | omega | (dsimp only; omega)) ?_|fail));refine AWP.loop (G := List Int × Int) (fun (os, c) => os.length ≤ A.length ∧ WOk os ∧ 0 ≤ c ∧ c ≤ 1 ∧ val os = val (A.take os.length) - val (B.take os.length) + BB os.length * c)
  (fun (os, c) => AU [] [(0, aW A), (1, aW B), (5, .row 11), (6, aU c), (7, aN os.length)] [(11, .row 1 eW (os ++ List.replicate (A.length - os.length) 0) 94)])
  (fun (os, c) => A.length - os.length) ([], 0) ⟨by simp, WOk.nil, by omega, by omega, by simp [val, BB]⟩ ?_ ?_
 ·refine Ent.of [] ?_ ?_ rfl rfl;(repeat' (first |exact True.intro |refine ⟨⟨AA _, rfl⟩, ?_⟩ |refine ⟨⟨⟨_, rfl, BLe.row rfl⟩, rfl⟩, ?_⟩|fail))
 ·intro ⟨os, c⟩ ⟨h0, h1, h2, h3, h4⟩
  have hl : (os ++ List.replicate (A.length - os.length) 0).length = A.length := by simp; omega
  (repeat' (first |refine qv ?_ |apply qn |apply qs |apply qr |refine qw ?_ |(refine AD rfl ?_ ?_ <;> intro _ <;> try (exfalso; omega)) |apply qb |apply qk |apply qx |apply qt |(refine B5 rfl rfl rfl rfl rfl rfl rfl rfl (by omega) (by omega) (by assumption) ?_; intro _ _ _ _) |refine Aq rfl rfl rfl rfl rfl rfl rfl rfl (by omega) (by first | omega | (simp; omega)) ?_ |refine A9 rfl rfl rfl rfl rfl rfl rfl rfl rfl rfl rfl (AB _) rfl (by first | omega | (simp; omega)) ?_ |refine Fl.sumM rfl rfl rfl rfl rfl rfl ?_))
  ·rename_i hi u hu hu0 hu1 hiB v hv hv0 hv1;rw [Int.toNat_natCast] at hu hv;have hstep := EV (p := (u + 4294967296 - c - v) % 4294967296) (q := 1 - (u + 4294967296 - c - v) / 4294967296) hu (Ag hv) h4 (by omega);refine LoopEnd.of (os ++ [(u + 4294967296 - c - v) % 4294967296], 1 - (u + 4294967296 - c - v) / 4294967296) ⟨by simp; omega, h1.append (WOk.cons (by omega) (by omega) WOk.nil), by omega, by omega, by rw [List.length_append]; exact hstep⟩ (by simp only [List.length_append, List.length_cons, List.length_nil]; omega) ?_;refine Ent.of [] ?_ ?_ rfl rfl;(repeat' (first |exact True.intro |refine ⟨⟨AA _, rfl⟩, ?_⟩ |refine ⟨⟨⟨_, rfl, BLe.row ?_⟩, rfl⟩, ?_⟩ |refine ⟨⟨AV.Le.int ?_, rfl⟩, ?_⟩|fail))
   all_goals first
    | exact CP (by simp) (by simp; omega) (by rw [Bw (by omega)]; omega)
    | (rw [p32]; omega)
    | (simp; done)
  ·rename_i hi u hu hu0 hu1 hiB;rw [Int.toNat_natCast] at hu;have hstep := EV (p := (u + 4294967296 - c - 0) % 4294967296) (q := 1 - (u + 4294967296 - c - 0) / 4294967296) hu (Bf (by omega)) h4 (by omega);refine LoopEnd.of (os ++ [(u + 4294967296 - c - 0) % 4294967296], 1 - (u + 4294967296 - c - 0) / 4294967296) ⟨by simp; omega, h1.append (WOk.cons (by omega) (by omega) WOk.nil), by omega, by omega, by rw [List.length_append]; exact hstep⟩ (by simp only [List.length_append, List.length_cons, List.length_nil]; omega) ?_;refine Ent.of [] ?_ ?_ rfl rfl;(repeat' (first |exact True.intro |refine ⟨⟨AA _, rfl⟩, ?_⟩ |refine ⟨⟨⟨_, rfl, BLe.row ?_⟩, rfl⟩, ?_⟩ |refine ⟨⟨AV.Le.int ?_, rfl⟩, ?_⟩|fail))
   all_goals first
    | exact CP (by simp) (by simp; omega) (by rw [Bw (by omega)]; omega)
    | (rw [p32]; omega)
    | (simp; done)
  ·rename_i hi
   have hlen : os.length = A.length := by omega
   rw [hlen, List.take_of_length_le (by omega), List.take_of_length_le (by omega)] at h4;refine Ap (Ent.freeze 11 rfl) ?_;refine RetOk.of rfl (AV.Le.sl ?_);have b7 := DJ h1;rw [hlen] at b7
   have hc : c = 0 := by
    have : c = 0 ∨ c = 1 := by omega
    rcases this with h | h
    ·exact h
    ·subst h; omega
   subst hc;rw [hlen, Nat.sub_self, List.replicate_zero, List.append_nil, padW_of h1, hlen];congr 1;omega
theorem rAdd_ok (x y : Int) (hxl : (toW x.natAbs).length ≤ 40000) (hyl : (toW y.natAbs).length ≤ 40000) : PureFn Tryz.prog 70 [aX x, aX y] (aX (x + y)) := by
 refine AC Tryz.func70 rfl Tryz.ntmps70 rfl rfl ?_;have wx := Ak x.natAbs;have wy := Ak y.natAbs;have hsx := Ah (show 0 ≤ (x.natAbs : Int) by omega);have hsy := Ah (show 0 ≤ (y.natAbs : Int) by omega);have bx := DJ wx;have by' := DJ wy;have hord := rorder_ok x.natAbs y.natAbs (by omega) (by omega) (by omega) (by omega)
 have hlen : ∀ a b : Int, 0 ≤ b → b ≤ a → (toW b).length ≤ (toW a).length := fun a b hb h => by
  rcases Nat.lt_or_ge (toW a).length (toW b).length with k | k
  ·have := Ce (by omega) hb k; omega
  ·exact k
 (repeat' (first |refine qv ?_ |apply qn |apply qs |apply qr |refine qe ?_ |(refine AD rfl ?_ ?_ <;> intro _ <;> try (exfalso; omega)) |apply qk))
 ·rename_i hsg;rw [decide_eq_decide] at hsg;obtain ⟨N, hN⟩ : ∃ N : Nat, N = (if (toW y.natAbs).length > (toW x.natAbs).length then (toW y.natAbs).length else (toW x.natAbs).length) + 1 := ⟨_, rfl⟩;refine Fl.call rfl (rplus_ok _ _ wx wy (by omega) (by omega) N hN) rfl rfl rfl (AB _) ?_;refine Fl.call rfl (D2 (decide (x < 0)) _ (padW_ok _ _) (by rw [padW_len]; split at hN <;> omega)) rfl rfl rfl (AB _) ?_;(repeat' (first |refine Fl.nil (fun _ => by kernel_rfl) ?_ |refine qe ?_ |apply qt));refine RetOk.of rfl (AV.Le.agg (leX (σ := []) ?_));have b3 := BB_le (show (toW x.natAbs).length ≤ N - 1 by split at hN <;> omega);have b4 := BB_le (show (toW y.natAbs).length ≤ N - 1 by split at hN <;> omega)
  have b5 : BB N = 4294967296 * BB (N - 1) := by rw [← BC]; congr 1; omega
  have b6 := Bc (N - 1);rw [padW_val (by omega) (by omega), hsx, hsy];simp only [sg]; simp; split <;> omega
 ·rename_i hsg;rw [decide_eq_decide] at hsg;refine qc (hord) ?_;(repeat' (first |refine qv ?_ |apply qn |apply qs |apply qr |(refine AD rfl ?_ ?_ <;> intro _ <;> try (exfalso; omega)) |apply qk))
  ·rename_i hge
   have hge2 : (y.natAbs : Int) ≤ x.natAbs := by unfold cmpI at hge; split at hge <;> omega
   refine Fl.call rfl (rminus_ok _ _ wx wy (by omega) (hlen _ _ (by omega) hge2) (by omega)) rfl rfl rfl (AB _) ?_;refine Fl.call rfl (D2 (decide (x < 0)) _ (padW_ok _ _) (by rw [padW_len]; omega)) rfl rfl rfl (AB _) ?_;(repeat' (first |refine Fl.nil (fun _ => by kernel_rfl) ?_ |refine qe ?_ |apply qt));refine RetOk.of rfl (AV.Le.agg (leX (σ := []) ?_));rw [padW_val (by omega) (by omega), hsx, hsy];simp only [sg]; simp; split <;> omega
  ·rename_i hge
   have hge2 : (x.natAbs : Int) ≤ y.natAbs := by
    unfold cmpI at hge;split at hge
    ·omega
    ·split at hge <;> omega
   refine Fl.call rfl (rminus_ok _ _ wy wx (by omega) (hlen _ _ (by omega) hge2) (by omega)) rfl rfl rfl (AB _) ?_;refine Fl.call rfl (D2 (decide (y < 0)) _ (padW_ok _ _) (by rw [padW_len]; omega)) rfl rfl rfl (AB _) ?_;(repeat' (first |refine Fl.nil (fun _ => by kernel_rfl) ?_ |refine qe ?_ |apply qt));refine RetOk.of rfl (AV.Le.agg (leX (σ := []) ?_));rw [padW_val (by omega) (by omega), hsx, hsy];simp only [sg]; simp; split <;> omega
end Go.Proofs.YtmmfloplhopioaaGreat
namespace Go.AL
def lenI (x : Int) : Nat := (toW x.natAbs).length
theorem lenI_le {x : Int} {n : Nat} : lenI x ≤ n ↔ (x.natAbs : Int) < BB n := BE (by omega) n
def AS (X : List Int) (l : List TZ) : Int := sumL (l.map fun t => ((tv X t).natAbs : Int))
end Go.AL
namespace Go.Proofs.YtmmfloplhopioaaGreat
open Go.AL
end Go.Proofs.YtmmfloplhopioaaGreat
namespace Go.AL
end Go.AL
namespace Go.Proofs.YtmmfloplhopioaaGreat
open Go.AL
end Go.Proofs.YtmmfloplhopioaaGreat
namespace Go.AL
theorem Fit.lenI {x : Int} (h : Fit x) : lenI x ≤ 4096 := h.len
end Go.AL
namespace Go.Proofs.YtmmfloplhopioaaGreat
open Go.AL
end Go.Proofs.YtmmfloplhopioaaGreat
namespace Go.AL
structure TermsOk (n : Nat) (M : Nat) (l : List TZ) : Prop where
  w : ∀ t ∈ l, WT t
  c : ∀ t ∈ l, t.c = zOf (zval t.c)
  e : ∀ t ∈ l, EOk t.e ∧ t.e.length = n
  m : ∀ t ∈ l, lenI (zval t.c) ≤ M
end Go.AL
namespace Go.Proofs.YtmmfloplhopioaaGreat
open Go.AL
end Go.Proofs.YtmmfloplhopioaaGreat
namespace Go.AL
theorem BO (x : Int) : zval (zOf x) = x := by
 unfold zval zOf;simp only;rw [Ah (by omega)];simp only [sg];split
 ·rename_i h; simp at h; omega
 ·rename_i h; simp at h; omega
theorem EOk.zeros (n : Nat) : EOk (List.replicate n 0) := fun e he => by rw [List.eq_of_mem_replicate he]; omega
theorem TermsOk.one {n M : Nat} {x : Int} {e : List Int} (h1 : lenI x ≤ M) (h2 : EOk e) (h3 : e.length = n) : TermsOk n M [⟨zOf x, e⟩] := by
 refine ⟨?_, ?_, ?_, ?_⟩ <;> (intro t ht; simp only [List.mem_singleton] at ht; subst ht)
 ·exact Ak _
 ·rw [BO]
 ·exact ⟨h2, h3⟩
 ·rw [BO]; exact h1
theorem TermsOk.nil (n M : Nat) : TermsOk n M [] := by constructor <;> (intro t h; cases h)
theorem toW_len0 (x : Int) : (toW x.natAbs).length = 0 ↔ x = 0 := by
 have := A8 (z := x.natAbs) (by omega);rw [List.length_eq_zero_iff, this]; omega
end Go.AL
namespace Go.Proofs.YtmmfloplhopioaaGreat
open Go.AL
end Go.Proofs.YtmmfloplhopioaaGreat
namespace Go.AL
theorem EOk.set {l : List Int} (h : EOk l) (i : Nat) {v : Int} (h0 : 0 ≤ v) (h1 : v ≤ 120) : EOk (l.set i v) := fun e he => by
 rcases List.mem_or_eq_of_mem_set he with k | k
 ·exact h e k
 ·subst k; exact ⟨h0, h1⟩
theorem OkP.one {n : Nat} {x : Int} {e : List Int} (hn : n ≤ 32) (hx : Fit x) (h0 : x ≠ 0) (he : EOk e) (hl : e.length = n) (hd : sumL e ≤ 120) : OkP ⟨n, [⟨zOf x, e⟩]⟩ := by
 refine ⟨by simp, by simp only; omega, by simp, fun t ht => ?_, fun i a b h1 h2 => by simp at h2⟩;simp only [List.mem_singleton] at ht;subst ht;exact ⟨Dm hx, fun h => h0 ((toW_len0 x).1 h), by simp only; omega, he, hd⟩
theorem WP.one {n : Int} {x : Int} {e : List Int} : WP ⟨n, [⟨zOf x, e⟩]⟩ := fun t ht => by
 simp only [List.mem_singleton] at ht; subst ht; exact Ak _
end Go.AL
namespace Go.Proofs.YtmmfloplhopioaaGreat
open Go.AL
end Go.Proofs.YtmmfloplhopioaaGreat
/- From what a claim's arguments read az to abstract values over the memory az it stands. -/
namespace Go.AL
def hpOf (w : World) : Hp := fun b => match w.heap[b]? with | some (.cells cs _ _) => some cs | _ => none
theorem hpOf_has (w : World) : Has w (hpOf w) := fun b cs h => by
 unfold hpOf at h;split at h
 ·rename_i cs' t fr hb;injection h with h; subst h;exact ⟨t, fr, hb⟩
 ·cases h
theorem hcell_of {w : World} {a : Addr} {u : Value} (h : w.cell? a = some u) : hcell (hpOf w) a u := by
 unfold World.cell? at h;split at h
 ·rename_i c t fr hb;split at h
  ·cases h
  ·rename_i hs;exact ⟨by simpa using hs, c, by simp [hpOf, hb], h⟩
 ·cases h
theorem mapM_get {α β : Type} {f : α → Option β} : ∀ {l : List α} {r : List β}, l.mapM f = some r → r.length = l.length ∧ ∀ (i : Nat) (x : α) (y : β), l[i]? = some x → r[i]? = some y → f x = some y
 | [], r, h => by
  simp at h; subst h; simp
 | x :: l, r, h => by
  simp only [List.mapM_cons, Option.bind_eq_bind, Option.bind_eq_some_iff, Option.pure_def, Option.some.injEq] at h;obtain ⟨y, h1, ys, h2, rfl⟩ := h;obtain ⟨h3, h4⟩ := mapM_get h2;refine ⟨by simp [h3], fun i a b ha hb => ?_⟩
  cases i with
  | zero => simp at ha hb; subst ha hb; exact h1
  | succ i => exact h4 i a b (by simpa using ha) (by simpa using hb)
theorem cells_of {w : World} {base : Nat} {a : Addr} {n : Nat} {cs : List Value} (h : w.cells? base a n = some cs) : cs.length = n ∧ ∀ (j : Nat) (u : Value), cs[j]? = some u → hcell (hpOf w) (a.add j) u := by
 unfold World.cells? at h;split at h
 ·obtain ⟨h1, h2⟩ := mapM_get h;rw [List.length_range] at h1;refine ⟨h1, fun j u hu => hcell_of ?_⟩
  have hj : j < n := by rw [← h1]; exact (List.getElem?_eq_some_iff.1 hu).1
  exact h2 j j u (by simp [hj]) hu
 ·cases h
section
variable {H : Type} {enc : TypeId × Value → H} {P : Program} {w : World} {base : Nat} {spare : Nat → Bool} {held : Bool}
theorem EJ {t : TypeId} {k : IntKind} {fuel : Nat} {cs : List Value} {x : DataW H × List MemPlace} (ht : P.underlying t = some (.int k)) (h : DataW.trod enc P w base spare held fuel t cs = some x) : ∃ n, cs = [.int k n] ∧ (Lit.int k n).wf = true := by
 cases fuel with
 | zero => simp [DataW.trod] at h
 | succ fuel =>
  simp only [DataW.trod, ht] at h;split at h <;> simp_all
theorem trodSlice {α : Type} (sz : Nat) (en : α → List AV) (Q : α → Prop) {t e : TypeId} {fuel : Nat} {cs : List Value} {x : DataW H × List MemPlace} (ht : P.underlying t = some (.slice e)) (hsz : P.cellsOf e = sz)
  (hel : ∀ (fuel : Nat) (us : List Value) (y : DataW H × List MemPlace), us.length = sz → DataW.trod enc P w base spare held fuel e us = some y → ∃ a, RepL (hpOf w) noB (en a) us ∧ Q a)
  (h : DataW.trod enc P w base spare held fuel t cs = some x) : ∃ (xs : List α) (u : Value), cs = [u] ∧ Rep (hpOf w) noB (.sl sz en xs) u ∧ (∀ a ∈ xs, Q a) ∧ xs.length ≤ maxLen := by
 cases fuel with
 | zero => simp [DataW.trod] at h
 | succ fuel =>
  simp only [DataW.trod, ht] at h;split at h <;> try (simp_all; done)
  ·refine ⟨[], _, rfl, ?_, by simp, by simp [maxLen]⟩;simp only [Rep];exact ⟨none, 0, rfl, by simp, by simp [maxLen], fun i y hy => by simp at hy⟩
  ·rename_i e' a len cap heq;injection heq with heq; injection heq with heq; subst heq;split at h
   ·rename_i hc;simp only [Option.bind_eq_some_iff] at h;obtain ⟨elems, h1, _⟩ := h;obtain ⟨h2, h3⟩ := mapM_get h1;rw [List.length_range] at h2
    have hall : ∀ i, i < len → ∃ (us : List Value) (a' : α), us.length = sz ∧ (∀ (j : Nat) (u : Value), us[j]? = some u → hcell (hpOf w) ((a.add (i * sz)).add j) u) ∧ RepL (hpOf w) noB (en a') us ∧ Q a' := by
     intro i hi;have := h3 i i (elems[i]'(by omega)) (by simp [hi]) (List.getElem?_eq_getElem _);simp only [Option.bind_eq_some_iff] at this;obtain ⟨us, hu1, hu2⟩ := this;rw [hsz] at hu1;obtain ⟨hu3, hu4⟩ := cells_of hu1;obtain ⟨a', ha1, ha2⟩ := hel fuel us _ hu3 hu2;exact ⟨us, a', hu3, hu4, ha1, ha2⟩
    have hex : ∃ xs : List α, xs.length = len ∧ ∀ (i : Nat) (y : α), xs[i]? = some y → ∃ us : List Value, us.length = sz ∧ (∀ (j : Nat) (u : Value), us[j]? = some u → hcell (hpOf w) ((a.add (i * sz)).add j) u) ∧ RepL (hpOf w) noB (en y) us ∧ Q y := by
     have : ∀ n, n ≤ len → ∃ xs : List α, xs.length = n ∧ ∀ (i : Nat) (y : α), xs[i]? = some y → ∃ us : List Value, us.length = sz ∧ (∀ (j : Nat) (u : Value), us[j]? = some u → hcell (hpOf w) ((a.add (i * sz)).add j) u) ∧ RepL (hpOf w) noB (en y) us ∧ Q y := by
      intro n
      induction n with
      | zero => exact fun _ => ⟨[], rfl, fun i y hy => by simp at hy⟩
      | succ n ih =>
       intro hn;obtain ⟨xs, hx1, hx2⟩ := ih (by omega);obtain ⟨us, a', q1, q2, q3, q4⟩ := hall n (by omega);refine ⟨xs ++ [a'], by simp [hx1], fun i y hy => ?_⟩;rw [List.getElem?_append] at hy;split at hy
       ·exact hx2 i y hy
       ·rename_i hi
        have hin : i = n := by
         have := (List.getElem?_eq_some_iff.1 hy).1;simp at this; omega
        subst hin;rw [hx1, Nat.sub_self] at hy;simp at hy; subst hy;exact ⟨us, q1, q2, q3, q4⟩
     exact this len (Nat.le_refl _)
    obtain ⟨xs, hx1, hx2⟩ := hex;refine ⟨xs, _, rfl, ?_, fun y hy => ?_, by omega⟩
    ·simp only [Rep];refine ⟨some a, cap, by rw [hx1], by omega, by omega, fun i y hy => ?_⟩;obtain ⟨us, q1, q2, q3, _⟩ := hx2 i y hy;refine ⟨a, us, rfl, q1, q3, fun j u hu => ?_⟩;have := q2 j u hu
     have hadd : (a.add (i * sz)).add j = a.add (i * sz + j) := by
      unfold Addr.add;by_cases k1 : i * sz = 0
      ·rw [k1]; simp
      ·by_cases k2 : j = 0
       ·subst k2; simp [k1]
       ·simp [k1, k2, Nat.add_assoc]
     rwa [hadd] at this
    ·obtain ⟨i, hi, rfl⟩ := List.mem_iff_getElem.1 hy;obtain ⟨_, _, _, _, hq⟩ := hx2 i _ (List.getElem?_eq_getElem hi);exact hq
   ·cases h
end
end Go.AL
namespace Go.AL
theorem list2 {α : Type} {l : List α} (h : l.length = 2) : ∃ a b, l = [a, b] := by
 match l, h with
 | [a, b], _ => exact ⟨a, b, rfl⟩
end Go.AL
namespace Go.Proofs.YtmmfloplhopioaaGreat
open Go.AL Go.ChangeShapes Go.WideShapes Go.ChangeAt Go.RowKit
section
variable {H : Type} {enc : TypeId × Value → H} {w : World} {base : Nat} {spare : Nat → Bool} {held : Bool}
theorem wfI64 {n : Int} (h : (Lit.int .i64 n).wf = true) : -9223372036854775808 ≤ n ∧ n ≤ 9223372036854775807 := by
 simp [Lit.wf] at h;have h1 : IntKind.i64.min = -9223372036854775808 := rfl;have h2 : IntKind.i64.max = 9223372036854775807 := rfl;omega
end
theorem below_of {W W' : World} {h h' : Hp} (e : Evo DU W h W' h') : Below W.heap.size W W' := ⟨e.os, e.tape, e.output.1, e.size, fun k hk => e.block k hk (fun x => x)⟩
theorem own : ownKnob Tryz.prog.godebug = none := by kernel_rfl
theorem lb : laidOutB Tryz.prog = true := by kernel_rfl
end Go.Proofs.YtmmfloplhopioaaGreat
/- Calls that leave their boxes az they are: they only read. -/
namespace Go.AL
def SameB (s : St) : List (Id × Bx) → Prop
  | [] => True
  | (b, B) :: r => s.bx b = some B ∧ SameB s r
theorem SameB.upd {s : St} (f : Id → Option Bx) : ∀ (U : List (Id × Bx)), SameB s U → (∀ id ∈ U.map (·.1), f id = s.bx id) → updB U f = f
 | [], _, _ => rfl
 | (b, B) :: r, h, hf => by
  have ih := SameB.upd f r h.2 fun id hid => hf id (by simp only [List.map_cons, List.mem_cons]; exact .inr hid);funext id;simp only [updB];split
  ·rename_i e;have : id = b := Nat.eq_of_beq_eq_true e;rw [this, hf b (by simp), h.1]
  ·rw [ih]
section
variable {P : Program} {tab : Tab} {n : Nat} {s : St}
variable {ops : Array Oper} {draw : Dr} {o : Oper} {l : List Oper} {acc : List Eff} {K : Exit → St → Prop}
theorem OpJ.same {v : AV} {U : List (Id × Bx)} {tb : List Id} (k : OpJ P n o s ⟨v, U, [], [], tb⟩) (hs : SameB s U) (ht : ∀ id ∈ U.map (·.1), id ∈ tb) : OpJ P n o s ⟨v, [], [], [], tb⟩ := by
 refine ⟨k.1, fun C s' a w h β Q K hs' hb hal b hK => ?_⟩;have hb' : ∀ id ∈ tb, s'.bx id = s.bx id := fun id hid => hb id (by simp [Eff.ts, hid]);refine k.2 C s' a w h β Q K hs' (fun id hid => ?_) (fun id hid => ?_) b ?_
 ·simp only [Eff.ts, Eff.wr, List.append_nil, List.mem_append] at hid;rcases hid with hid | hid
  ·exact hb' id hid
  ·exact hb' id (ht id hid)
 ·cases hid
 ·have e : (Eff.mk v U [] [] tb).app o.dst s' = (Eff.mk v [] [] [] tb).app o.dst s' := by
   simp only [Eff.app];rw [SameB.upd s'.bx U hs fun id hid => hb' id (ht id hid)];rfl
  rw [e];exact hK
theorem renB_ids (σ : Id → Id) : ∀ l : List (Id × Bx), (renB σ l).map (·.1) = (idsB l).map σ
 | [] => rfl
 | (i, B) :: r => by simp only [renB, List.map_cons, idsB]; rw [renB_ids σ r]; rfl
theorem Fl.ioR {f : FuncId} {args : List Operand} {ts : Array TypeId} (hop : o.op = .call { callee := .value (.func f), args := ⟨args⟩, argTypes := ts }) (σ : List (Id × Id)) {az : List AV} {bxs : List (Id × Bx)} {ret : AV} (hf : IoFn P f az bxs (.ret ret) bxs) (hg : gOk ops s o = true) (hd : dOk n o.dst = true) (hle : LeL (opds s args) (renL (renI σ) az)) (hw : A2 (idsB bxs) az = true) (hb : Bl (renI σ) (idsB bxs) s bxs)
  (hs : SameB s (renB (renI σ) bxs)) (hd1 : Ac (renI σ) (idsB bxs) = true) (hrw : ret.within (idsB bxs) = true) (hbw : (bxs.all fun p => p.2.within (idsB bxs)) = true) (hn : newB bxs (renI σ) bxs = [])
  (r : Fl P n ops draw l ((Eff.mk (ret.ren (renI σ)) [] [] [] ((idsB bxs).map (renI σ))).app o.dst s) (Eff.mk (ret.ren (renI σ)) [] [] [] ((idsB bxs).map (renI σ)) :: acc) K) : Fl P n ops draw (o :: l) s acc K := by
 have k := OpJ.io (AY hd) (Ds hop).out σ hf hle hw hb hd1 hrw hbw hd1;rw [hn] at k;exact Ab hg (k.same hs fun id hid => by rw [renB_ids] at hid; exact hid) r
theorem qR {f : FuncId} {args : List Operand} {ts : Array TypeId} (σ : List (Id × Id)) {az : List AV} {bxs : List (Id × Bx)} {ret : AV} (hf : IoFn P f az bxs (.ret ret) bxs) (r : Fl P n ops draw l ((Eff.mk (ret.ren (renI σ)) [] [] [] ((idsB bxs).map (renI σ))).app o.dst s) (Eff.mk (ret.ren (renI σ)) [] [] [] ((idsB bxs).map (renI σ)) :: acc) K) (hop : o.op = .call { callee := .value (.func f), args := ⟨args⟩, argTypes := ts } := by exact rfl) (hg : gOk ops s o = true := by exact rfl) (hd : dOk n o.dst = true := by exact rfl) (hle : LeL (opds s args) (renL (renI σ) az) := by exact AB _) (hw : A2 (idsB bxs) az = true := by exact rfl) (hb : Bl (renI σ) (idsB bxs) s bxs := by exact ⟨⟨⟨_, rfl, BLe.cells (AB _)⟩, rfl⟩, ⟨⟨_, rfl, BLe.row rfl⟩, rfl⟩, trivial⟩) (hs : SameB s (renB (renI σ) bxs) := by exact ⟨rfl, rfl, trivial⟩) (hd1 : Ac (renI σ) (idsB bxs) = true := by exact rfl) (hrw : ret.within (idsB bxs) = true := by exact rfl) (hbw : (bxs.all fun p => p.2.within (idsB bxs)) = true := by exact rfl) (hn : newB bxs (renI σ) bxs = [] := by exact rfl) : Fl P n ops draw (o :: l) s acc K := Fl.ioR hop σ hf hg hd hle hw hb hs hd1 hrw hbw hn r
theorem Fl.ioVR {f : FuncId} {x : Operand} {args : List Operand} {ts : Array TypeId} (hop : o.op = .call { callee := .value x, args := ⟨args⟩, argTypes := ts }) {caps : List AV} (hx : opd s x = .fn f caps) (σ : List (Id × Id)) {az : List AV} {bxs : List (Id × Bx)} {ret : AV} (hf : IoFn P f az bxs (.ret ret) bxs) (hg : gOk ops s o = true) (hd : dOk n o.dst = true) (hle : LeL (opds s args ++ caps) (renL (renI σ) az)) (hw : A2 (idsB bxs) az = true) (hb : Bl (renI σ) (idsB bxs) s bxs)
  (hs : SameB s (renB (renI σ) bxs)) (hd1 : Ac (renI σ) (idsB bxs) = true) (hrw : ret.within (idsB bxs) = true) (hbw : (bxs.all fun p => p.2.within (idsB bxs)) = true) (hn : newB bxs (renI σ) bxs = [])
  (r : Fl P n ops draw l ((Eff.mk (ret.ren (renI σ)) [] [] [] ((idsB bxs).map (renI σ))).app o.dst s) (Eff.mk (ret.ren (renI σ)) [] [] [] ((idsB bxs).map (renI σ)) :: acc) K) : Fl P n ops draw (o :: l) s acc K := by
 have k := OpJ.io (AY hd) (Runs.value hop hx).out σ hf hle hw hb hd1 hrw hbw hd1;rw [hn] at k;exact Ab hg (k.same hs fun id hid => by rw [renB_ids] at hid; exact hid) r
end
end Go.AL
