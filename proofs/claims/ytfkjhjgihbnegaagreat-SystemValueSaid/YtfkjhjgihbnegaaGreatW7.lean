/- Part 7 of a proof layer and of the contracts of the functions (XL8 XL9 XN0 XPH XK5). -/
import Derived.Laws.StructEq
import Derived.Deep.Strs
import Derived.Test.YtfkjhjgihbnegaaGreatW6
set_option linter.unusedVariables false
set_option linter.unusedSimpArgs false
namespace Go.AL
/-- what is counted by the wider test -/
def wnT (n : Int) (t : TZ) : Int := if n ≤ 300000 then w64 (w64 (n + t.e.length) + t.c.w.length) else n
def wnP (n : Int) (p : PZ) : Int := if n ≤ 300000 then p.terms.foldl wnT (w64 (n + p.terms.length)) else n
def wnL0 (n : Int) (l : LZ) : Int := w64 (w64 (n + l.vars.length) + l.polys.length)
def wnL (n : Int) (l : LZ) : Int := if n ≤ 300000 then l.polys.foldl wnP (wnL0 n l) else n
def mnI (a b : Int) : Int := if b < a then b else a
def wideB (b : Bool) (s : SZ) (zs : List Z) (most : Int) : Bool :=
  if lightB b s zs most = true then true else if 6000 < s.links.length then false else if 20100 < zs.length then false else if 300000 < s.links.foldl wnL 0 then false else if b = false then true else if (zs.length : Int) = s.vars then decide (ldS zs s.links ≤ mnI most 60) else true
theorem wide_stuck {α : Type} {f : Int → α → Int} (hf : ∀ n x, 300000 < n → f n x = n) : ∀ (l : List α) (n : Int), 300000 < n → l.foldl f n = n
  | [], _, _ => rfl
  | x :: l, n, h => by rw [List.foldl_cons, hf n x h]; exact wide_stuck hf l n h
theorem wide_stop {α : Type} {f : Int → α → Int} (hf : ∀ n x, 300000 < n → f n x = n) (l : List α) (n : Int) (i : Nat) (h : 300000 < (l.take i).foldl f n) : l.foldl f n = (l.take i).foldl f n := by
  rw [show l.foldl f n = (l.take i ++ l.drop i).foldl f n by rw [List.take_append_drop], List.foldl_append]
  exact wide_stuck hf _ _ h
theorem wnT_stuck (n : Int) (t : TZ) (h : 300000 < n) : wnT n t = n := if_neg (by omega)
theorem wnP_stuck (n : Int) (t : PZ) (h : 300000 < n) : wnP n t = n := if_neg (by omega)
theorem wnL_stuck (n : Int) (t : LZ) (h : 300000 < n) : wnL n t = n := if_neg (by omega)
theorem wnT_go {n : Int} {t : TZ} (h : n ≤ 300000) : wnT n t = w64 (w64 (n + t.e.length) + t.c.w.length) := if_pos h
theorem wnP_go {n : Int} {p : PZ} (h : n ≤ 300000) : wnP n p = p.terms.foldl wnT (w64 (n + p.terms.length)) := if_pos h
theorem wnL_go {n : Int} {l : LZ} (h : n ≤ 300000) : wnL n l = l.polys.foldl wnP (wnL0 n l) := if_pos h
theorem wideB_len {b : Bool} {s : SZ} {zs : List Z} {most : Int} (h : wideB b s zs most = true) : zs.length ≤ 20100 := by
  unfold wideB at h
  split at h
  · rename_i h1; exact (lightB_len h1).2
  · split at h
    · cases h
    · split at h
      · cases h
      · omega
theorem lightB_load {s : SZ} {zs : List Z} {most : Int} (h : lightB true s zs most = true) (hv : (zs.length : Int) = s.vars) : ldS zs s.links ≤ most := by
  unfold lightB at h
  split at h
  · cases h
  split at h
  · cases h
  split at h
  · cases h
  have h : decide (ldS zs s.links ≤ most) = true := by simpa [hv] using h
  exact of_decide_eq_true h
theorem wideB_load {s : SZ} {zs : List Z} {most : Int} (h : wideB true s zs most = true) (hv : (zs.length : Int) = s.vars) : ldS zs s.links ≤ most := by
  unfold wideB at h
  split at h
  · rename_i h1; exact lightB_load h1 hv
  split at h
  · cases h
  split at h
  · cases h
  split at h
  · cases h
  have h : decide (ldS zs s.links ≤ mnI most 60) = true := by simpa [hv] using h
  have := of_decide_eq_true h
  unfold mnI at this
  split at this <;> omega
end Go.AL
namespace Go.Proofs.YtfkjhjgihbnegaaGreat
open Go.AL

set_option maxHeartbeats 1000000 in
theorem Wide_ok (s : SZ) (zs : List Z) (most : Int) (hw : WS s) (hwl : WLS s) (b : Bool) (hb : b = true ↔ OkS s) : PureFn Tryz.prog 7 [aS s, .sl 2 eZ zs, aN most] (aB (wideB b s zs most)) := by
  refine PureFn.of_body Tryz.func7 rfl Tryz.ntmps7 rfl rfl ?_
  have hli := Light_ok s zs most hw hwl b hb
  by_cases hlb : lightB b s zs most = true
  · rw [hlb] at hli
    repeat' (first |refine Fl.v rfl rfl rfl ?_ |refine Fl.nilF ?_ |refine AWP.seq ?_ |refine AWP.region ?_ |refine Fl.b rfl rfl rfl rfl ?_ |fail)
    refine Fl.call rfl (hli) rfl rfl rfl (LeL.refl _) ?_
    repeat' (first |refine Fl.v rfl rfl rfl ?_ |refine Fl.nilF ?_ |refine AWP.seq ?_ |refine AWP.region ?_ |refine AWP.condT rfl ?_ |refine AWP.ret ?_ |fail)
    exact RetOk.of rfl (AV.Le.bool (by unfold wideB; rw [if_pos hlb]))
  rw [Bool.eq_false_iff.2 hlb] at hli
  repeat' (first |refine Fl.v rfl rfl rfl ?_ |refine Fl.nilF ?_ |refine AWP.seq ?_ |refine AWP.region ?_ |refine Fl.b rfl rfl rfl rfl ?_ |fail)
  refine Fl.call rfl (hli) rfl rfl rfl (LeL.refl _) ?_
  repeat' (first |refine Fl.v rfl rfl rfl ?_ |refine Fl.nilF ?_ |refine AWP.seq ?_ |refine AWP.region ?_ |refine Fl.skip rfl rfl ?_ |refine AWP.condT rfl ?_ |refine AWP.condF rfl ?_ |(refine AWP.condD rfl ?_ ?_ <;> intro _ <;> try (exfalso; omega)) |refine AWP.block ?_ |refine AWP.skip ?_ |refine AWP.ret ?_ |(refine Fl.splitD rfl rfl ?_ ?_ <;> intro _ <;> try (exfalso; omega)) |fail)
  · rename_i h; exact RetOk.of rfl (AV.Le.bool (by unfold wideB; rw [if_neg hlb, if_pos (by omega)]))
  · rename_i h1 h2; exact RetOk.of rfl (AV.Le.bool (by unfold wideB; rw [if_neg hlb, if_neg (by omega), if_pos (by omega)]))
  rename_i h1 h2
  refine AWP.loop (G := Nat) (fun i => i ≤ s.links.length) (fun i => St.of [] [(1, .sl 2 eZ zs), (2, aN most), (3, .ptr 3 0), (7, aN ((s.links.take i).foldl wnL 0)), (8, aN i)] [(3, .cells [aN s.vars, .sl 3 eL s.links] 24)]) (fun i => s.links.length - i) 0 (by omega) ?_ ?_
  · refine Ent.of [] ?_ ?_ rfl rfl
    repeat' (first | exact True.intro |refine ⟨⟨AV.Le.refl _, rfl⟩, ?_⟩ |refine ⟨⟨⟨_, rfl, BLe.cells (LeL.refl _)⟩, rfl⟩, ?_⟩ |refine ⟨⟨⟨_, rfl, BLe.row rfl⟩, rfl⟩, ?_⟩ |refine ⟨⟨⟨_, rfl, BLe.row ?_⟩, rfl⟩, ?_⟩ |refine ⟨⟨⟨_, rfl, BLe.cells ?_⟩, rfl⟩, ?_⟩ |refine ⟨⟨AV.Le.int ?_, rfl⟩, ?_⟩ |refine ⟨⟨AV.Le.bool ?_, rfl⟩, ?_⟩ |refine ⟨⟨AV.Le.sl ?_, rfl⟩, ?_⟩ |refine ⟨⟨AV.Le.of_eq ?_, rfl⟩, ?_⟩ | fail)
  · intro i k0
    obtain ⟨n, hn⟩ : ∃ n, n = (s.links.take i).foldl wnL 0 := ⟨_, rfl⟩
    rw [← hn]
    have hend : i = s.links.length ∨ 300000 < n → s.links.foldl wnL 0 = n := by
      rintro (h | h)
      · rw [hn, h, List.take_length]
      · rw [hn]; rw [hn] at h; exact wide_stop wnL_stuck _ _ _ h
    by_cases hgo : i < s.links.length ∧ n ≤ 300000
    · obtain ⟨hi, hn6⟩ := hgo
      obtain ⟨l, hl⟩ : ∃ l, s.links[i]? = some l := ⟨_, List.getElem?_eq_getElem hi⟩
      have hwp := (hwl l (List.mem_of_getElem? hl)).1
      have hnn := foldl_snoc (f := wnL) (n := 0) hl
      rw [← hn, wnL_go hn6] at hnn
      repeat' (first |refine Fl.v rfl rfl rfl ?_ |refine Fl.nilF ?_ |refine Fl.nil (fun _ => by kernel_rfl) ?_ |refine AWP.seq ?_ |refine AWP.region ?_ |refine Fl.sumS rfl rfl rfl rfl rfl rfl ?_ |(refine AWP.condD rfl ?_ ?_ <;> intro _ <;> try (exfalso; omega)) |refine AWP.block ?_ |refine AWP.skip ?_ |refine Fl.elK rfl rfl rfl rfl rfl rfl rfl rfl (by assumption) (by omega) ?_ |(refine Fl.splitD rfl rfl ?_ ?_ <;> intro _ <;> try (exfalso; omega)) |fail)
      refine AWP.loop (G := Nat) (fun k => k ≤ l.polys.length) (fun k => St.of [] [(1, .sl 2 eZ zs), (2, aN most), (3, .ptr 3 0), (7, aN ((l.polys.take k).foldl wnP (wnL0 n l))), (8, aN i), (9, aN k)] [(3, .cells [aN s.vars, .sl 3 eL s.links] 24)]) (fun k => l.polys.length - k) 0 (by omega) ?_ ?_
      · refine Ent.of [] ?_ ?_ rfl rfl
        repeat' (first | exact True.intro |refine ⟨⟨AV.Le.refl _, rfl⟩, ?_⟩ |refine ⟨⟨⟨_, rfl, BLe.cells (LeL.refl _)⟩, rfl⟩, ?_⟩ |refine ⟨⟨⟨_, rfl, BLe.row rfl⟩, rfl⟩, ?_⟩ |refine ⟨⟨⟨_, rfl, BLe.row ?_⟩, rfl⟩, ?_⟩ |refine ⟨⟨⟨_, rfl, BLe.cells ?_⟩, rfl⟩, ?_⟩ |refine ⟨⟨AV.Le.int ?_, rfl⟩, ?_⟩ |refine ⟨⟨AV.Le.bool ?_, rfl⟩, ?_⟩ |refine ⟨⟨AV.Le.sl ?_, rfl⟩, ?_⟩ |refine ⟨⟨AV.Le.of_eq ?_, rfl⟩, ?_⟩ | fail)
      · intro k g0
        obtain ⟨m, hm⟩ : ∃ m, m = (l.polys.take k).foldl wnP (wnL0 n l) := ⟨_, rfl⟩
        rw [← hm]
        have hend2 : k = l.polys.length ∨ 300000 < m → l.polys.foldl wnP (wnL0 n l) = m := by
          rintro (h | h)
          · rw [hm, h, List.take_length]
          · rw [hm]; rw [hm] at h; exact wide_stop wnP_stuck _ _ _ h
        by_cases hk : k < l.polys.length ∧ m ≤ 300000
        · obtain ⟨hk, hm6⟩ := hk
          obtain ⟨p, hp⟩ : ∃ p, l.polys[k]? = some p := ⟨_, List.getElem?_eq_getElem hk⟩
          have hwt := ((hwl l (List.mem_of_getElem? hl)).2 p (List.mem_of_getElem? hp)).1
          have hmm := foldl_snoc (f := wnP) (n := wnL0 n l) hp
          rw [← hm, wnP_go hm6] at hmm
          repeat' (first |refine Fl.v rfl rfl rfl ?_ |refine Fl.nilF ?_ |refine AWP.seq ?_ |refine AWP.region ?_ |refine Fl.sumS rfl rfl rfl rfl rfl rfl ?_ |(refine AWP.condD rfl ?_ ?_ <;> intro _ <;> try (exfalso; omega)) |refine AWP.block ?_ |refine AWP.skip ?_ |refine Fl.elK rfl rfl rfl rfl rfl rfl rfl rfl (by assumption) (by omega) ?_ |(refine Fl.splitD rfl rfl ?_ ?_ <;> intro _ <;> try (exfalso; omega)) |fail)
          refine AWP.loop (G := Nat) (fun j => j ≤ p.terms.length) (fun j => St.of [] [(1, .sl 2 eZ zs), (2, aN most), (3, .ptr 3 0), (7, aN ((p.terms.take j).foldl wnT (w64 (m + p.terms.length)))), (8, aN i), (9, aN k), (10, .sl 3 eT p.terms), (11, aN j)] [(3, .cells [aN s.vars, .sl 3 eL s.links] 24)]) (fun j => p.terms.length - j) 0 (by omega) ?_ ?_
          · refine Ent.of [] ?_ ?_ rfl rfl
            repeat' (first | exact True.intro |refine ⟨⟨AV.Le.refl _, rfl⟩, ?_⟩ |refine ⟨⟨⟨_, rfl, BLe.cells (LeL.refl _)⟩, rfl⟩, ?_⟩ |refine ⟨⟨⟨_, rfl, BLe.row rfl⟩, rfl⟩, ?_⟩ |refine ⟨⟨⟨_, rfl, BLe.row ?_⟩, rfl⟩, ?_⟩ |refine ⟨⟨⟨_, rfl, BLe.cells ?_⟩, rfl⟩, ?_⟩ |refine ⟨⟨AV.Le.int ?_, rfl⟩, ?_⟩ |refine ⟨⟨AV.Le.bool ?_, rfl⟩, ?_⟩ |refine ⟨⟨AV.Le.sl ?_, rfl⟩, ?_⟩ |refine ⟨⟨AV.Le.of_eq ?_, rfl⟩, ?_⟩ | fail)
          · intro j g1
            obtain ⟨q, hq⟩ : ∃ q, q = (p.terms.take j).foldl wnT (w64 (m + p.terms.length)) := ⟨_, rfl⟩
            rw [← hq]
            by_cases hj : j < p.terms.length ∧ q ≤ 300000
            · obtain ⟨hj, hq6⟩ := hj
              obtain ⟨t, ht⟩ : ∃ t, p.terms[j]? = some t := ⟨_, List.getElem?_eq_getElem hj⟩
              have hqq := foldl_snoc (f := wnT) (n := w64 (m + p.terms.length)) ht
              rw [← hq, wnT_go hq6] at hqq
              repeat' (first |refine Fl.v rfl rfl rfl ?_ |refine Fl.nilF ?_ |refine Fl.nil (fun _ => by kernel_rfl) ?_ |refine AWP.seq ?_ |refine AWP.region ?_ |refine Fl.w rfl rfl rfl (by first | exact True.intro | omega) ?_ |refine Fl.sumS rfl rfl rfl rfl rfl rfl ?_ |(refine AWP.condD rfl ?_ ?_ <;> intro _ <;> try (exfalso; omega)) |refine AWP.block ?_ |refine AWP.skip ?_ |refine Fl.elK rfl rfl rfl rfl rfl rfl rfl rfl (by assumption) (by omega) ?_ |(refine Fl.splitD rfl rfl ?_ ?_ <;> intro _ <;> try (exfalso; omega)) |fail)
              refine LoopEnd.of (j + 1) (by omega) (by omega) ?_
              refine Ent.of [] ?_ ?_ rfl rfl
              repeat' (first | exact True.intro |refine ⟨⟨AV.Le.refl _, rfl⟩, ?_⟩ |refine ⟨⟨⟨_, rfl, BLe.cells (LeL.refl _)⟩, rfl⟩, ?_⟩ |refine ⟨⟨⟨_, rfl, BLe.row rfl⟩, rfl⟩, ?_⟩ |refine ⟨⟨⟨_, rfl, BLe.row ?_⟩, rfl⟩, ?_⟩ |refine ⟨⟨⟨_, rfl, BLe.cells ?_⟩, rfl⟩, ?_⟩ |refine ⟨⟨AV.Le.int ?_, rfl⟩, ?_⟩ |refine ⟨⟨AV.Le.bool ?_, rfl⟩, ?_⟩ |refine ⟨⟨AV.Le.sl ?_, rfl⟩, ?_⟩ |refine ⟨⟨AV.Le.of_eq ?_, rfl⟩, ?_⟩ | fail)
              exact hqq.symm
            · have hqe : (l.polys.take (k + 1)).foldl wnP (wnL0 n l) = q := by
                rw [hmm, hq]
                by_cases hj' : j < p.terms.length
                · exact wide_stop wnT_stuck _ _ _ (by rw [← hq]; omega)
                · rw [List.take_of_length_le (by omega)]
              by_cases hj' : j < p.terms.length
              · repeat' (first |refine Fl.v rfl rfl rfl ?_ |refine Fl.nilF ?_ |refine AWP.seq ?_ |refine AWP.region ?_ |refine Fl.w rfl rfl rfl (by first | exact True.intro | omega) ?_ |(refine AWP.condD rfl ?_ ?_ <;> intro _ <;> try (exfalso; omega)) |refine AWP.exit ?_ |(refine Fl.splitD rfl rfl ?_ ?_ <;> intro _ <;> try (exfalso; omega)) |fail)
                refine LoopEnd.of (k + 1) (by omega) (by omega) ?_
                refine Ent.of [] ?_ ?_ rfl rfl
                repeat' (first | exact True.intro |refine ⟨⟨AV.Le.refl _, rfl⟩, ?_⟩ |refine ⟨⟨⟨_, rfl, BLe.cells (LeL.refl _)⟩, rfl⟩, ?_⟩ |refine ⟨⟨⟨_, rfl, BLe.row rfl⟩, rfl⟩, ?_⟩ |refine ⟨⟨⟨_, rfl, BLe.row ?_⟩, rfl⟩, ?_⟩ |refine ⟨⟨⟨_, rfl, BLe.cells ?_⟩, rfl⟩, ?_⟩ |refine ⟨⟨AV.Le.int ?_, rfl⟩, ?_⟩ |refine ⟨⟨AV.Le.bool ?_, rfl⟩, ?_⟩ |refine ⟨⟨AV.Le.sl ?_, rfl⟩, ?_⟩ |refine ⟨⟨AV.Le.of_eq ?_, rfl⟩, ?_⟩ | fail)
                exact hqe.symm
              · repeat' (first |refine Fl.v rfl rfl rfl ?_ |refine Fl.nilF ?_ |refine AWP.seq ?_ |refine AWP.region ?_ |refine Fl.w rfl rfl rfl (by first | exact True.intro | omega) ?_ |refine Fl.skip rfl rfl ?_ |refine AWP.condF rfl ?_ |refine AWP.exit ?_ |(refine Fl.splitD rfl rfl ?_ ?_ <;> intro _ <;> try (exfalso; omega)) |fail)
                refine LoopEnd.of (k + 1) (by omega) (by omega) ?_
                refine Ent.of [] ?_ ?_ rfl rfl
                repeat' (first | exact True.intro |refine ⟨⟨AV.Le.refl _, rfl⟩, ?_⟩ |refine ⟨⟨⟨_, rfl, BLe.cells (LeL.refl _)⟩, rfl⟩, ?_⟩ |refine ⟨⟨⟨_, rfl, BLe.row rfl⟩, rfl⟩, ?_⟩ |refine ⟨⟨⟨_, rfl, BLe.row ?_⟩, rfl⟩, ?_⟩ |refine ⟨⟨⟨_, rfl, BLe.cells ?_⟩, rfl⟩, ?_⟩ |refine ⟨⟨AV.Le.int ?_, rfl⟩, ?_⟩ |refine ⟨⟨AV.Le.bool ?_, rfl⟩, ?_⟩ |refine ⟨⟨AV.Le.sl ?_, rfl⟩, ?_⟩ |refine ⟨⟨AV.Le.of_eq ?_, rfl⟩, ?_⟩ | fail)
                exact hqe.symm
        · have hme := hend2 (by omega)
          rw [hme] at hnn
          by_cases hk' : k < l.polys.length
          · repeat' (first |refine Fl.v rfl rfl rfl ?_ |refine Fl.nilF ?_ |refine AWP.seq ?_ |refine AWP.region ?_ |refine Fl.w rfl rfl rfl (by first | exact True.intro | omega) ?_ |(refine AWP.condD rfl ?_ ?_ <;> intro _ <;> try (exfalso; omega)) |refine AWP.exit ?_ |refine Fl.elK rfl rfl rfl rfl rfl rfl rfl rfl (by assumption) (by omega) ?_ |(refine Fl.splitD rfl rfl ?_ ?_ <;> intro _ <;> try (exfalso; omega)) |fail)
            refine LoopEnd.of (i + 1) (by omega) (by omega) ?_
            refine Ent.of [] ?_ ?_ rfl rfl
            repeat' (first | exact True.intro |refine ⟨⟨AV.Le.refl _, rfl⟩, ?_⟩ |refine ⟨⟨⟨_, rfl, BLe.cells (LeL.refl _)⟩, rfl⟩, ?_⟩ |refine ⟨⟨⟨_, rfl, BLe.row rfl⟩, rfl⟩, ?_⟩ |refine ⟨⟨⟨_, rfl, BLe.row ?_⟩, rfl⟩, ?_⟩ |refine ⟨⟨⟨_, rfl, BLe.cells ?_⟩, rfl⟩, ?_⟩ |refine ⟨⟨AV.Le.int ?_, rfl⟩, ?_⟩ |refine ⟨⟨AV.Le.bool ?_, rfl⟩, ?_⟩ |refine ⟨⟨AV.Le.sl ?_, rfl⟩, ?_⟩ |refine ⟨⟨AV.Le.of_eq ?_, rfl⟩, ?_⟩ | fail)
            exact hnn.symm
          · repeat' (first |refine Fl.v rfl rfl rfl ?_ |refine Fl.nilF ?_ |refine AWP.seq ?_ |refine AWP.region ?_ |refine Fl.w rfl rfl rfl (by first | exact True.intro | omega) ?_ |refine Fl.skip rfl rfl ?_ |refine AWP.condF rfl ?_ |refine AWP.exit ?_ |refine Fl.elK rfl rfl rfl rfl rfl rfl rfl rfl (by assumption) (by omega) ?_ |(refine Fl.splitD rfl rfl ?_ ?_ <;> intro _ <;> try (exfalso; omega)) |fail)
            refine LoopEnd.of (i + 1) (by omega) (by omega) ?_
            refine Ent.of [] ?_ ?_ rfl rfl
            repeat' (first | exact True.intro |refine ⟨⟨AV.Le.refl _, rfl⟩, ?_⟩ |refine ⟨⟨⟨_, rfl, BLe.cells (LeL.refl _)⟩, rfl⟩, ?_⟩ |refine ⟨⟨⟨_, rfl, BLe.row rfl⟩, rfl⟩, ?_⟩ |refine ⟨⟨⟨_, rfl, BLe.row ?_⟩, rfl⟩, ?_⟩ |refine ⟨⟨⟨_, rfl, BLe.cells ?_⟩, rfl⟩, ?_⟩ |refine ⟨⟨AV.Le.int ?_, rfl⟩, ?_⟩ |refine ⟨⟨AV.Le.bool ?_, rfl⟩, ?_⟩ |refine ⟨⟨AV.Le.sl ?_, rfl⟩, ?_⟩ |refine ⟨⟨AV.Le.of_eq ?_, rfl⟩, ?_⟩ | fail)
            exact hnn.symm
    · have hne := hend (by omega)
      by_cases hn6 : n ≤ 300000
      · have hB : wideB b s zs most = if b = false then true else if (zs.length : Int) = s.vars then decide (ldS zs s.links ≤ mnI most 60) else true := by
          unfold wideB
          rw [if_neg hlb, if_neg (by omega), if_neg (by omega), hne, if_neg (by omega)]
        rw [hB]
        repeat' (first |refine Fl.v rfl rfl rfl ?_ |refine Fl.nilF ?_ |refine AWP.seq ?_ |refine AWP.region ?_ |refine Fl.skip rfl rfl ?_ |refine AWP.condF rfl ?_ |(refine AWP.condD rfl ?_ ?_ <;> intro _ <;> try (exfalso; omega)) |refine AWP.skip ?_ |refine AWP.exit ?_ |(refine Fl.splitD rfl rfl ?_ ?_ <;> intro _ <;> try (exfalso; omega)) |fail)
        refine Fl.call rfl (r9Valid_ok s hw hwl b hb) rfl rfl rfl (LeL.refl _) ?_
        repeat' (first |refine Fl.v rfl rfl rfl ?_ |refine Fl.nilF ?_ |refine AWP.seq ?_ |refine AWP.region ?_ |refine Fl.skip rfl rfl ?_ |refine AWP.condT rfl ?_ |(refine AWP.condN rfl ?_ ?_ <;> intro _ <;> try (exfalso; omega)) |refine AWP.skip ?_ |refine AWP.ret ?_ |(refine Fl.splitB rfl rfl ?_ ?_ <;> (fail_if_success (intro hb_; exact absurd hb_ (by decide))) <;> intro _) |fail)
        · rename_i h
          have h : (!b) = true := h
          refine RetOk.of rfl (AV.Le.bool ?_)
          rw [if_pos (by simpa using h)]
        · rename_i h h'
          have h : (!b) = false := h
          refine RetOk.of rfl (AV.Le.bool ?_)
          rw [if_neg (by simpa using h), if_neg h']
        · rename_i h h'
          have h : (!b) = false := h
          have hbt : b = true := by simpa using h
          refine Fl.call rfl (r9Load_ok s zs (hb.1 hbt) h') rfl rfl rfl (LeL.refl _) ?_
          repeat' (first |refine Fl.v rfl rfl rfl ?_ |refine Fl.nilF ?_ |refine Fl.w rfl rfl rfl (by first | exact True.intro | omega) ?_ |refine AWP.ret ?_ |fail)
          refine RetOk.of rfl (AV.Le.bool ?_)
          rw [if_neg (show ¬ b = false by simp [hbt]), if_pos h']
          rfl
      · have hB : wideB b s zs most = false := by
          unfold wideB
          rw [if_neg hlb, if_neg (by omega), if_neg (by omega), hne, if_pos (by omega)]
        rw [hB]
        by_cases hi : i < s.links.length
        · repeat' (first |refine Fl.v rfl rfl rfl ?_ |refine Fl.nilF ?_ |refine AWP.seq ?_ |refine AWP.region ?_ |(refine AWP.condD rfl ?_ ?_ <;> intro _ <;> try (exfalso; omega)) |refine AWP.exit ?_ |refine AWP.ret ?_ |(refine Fl.splitD rfl rfl ?_ ?_ <;> intro _ <;> try (exfalso; omega)) |fail)
          exact RetOk.of rfl (AV.Le.refl _)
        · repeat' (first |refine Fl.v rfl rfl rfl ?_ |refine Fl.nilF ?_ |refine AWP.seq ?_ |refine AWP.region ?_ |refine Fl.skip rfl rfl ?_ |refine AWP.condF rfl ?_ |(refine AWP.condD rfl ?_ ?_ <;> intro _ <;> try (exfalso; omega)) |refine AWP.exit ?_ |refine AWP.ret ?_ |(refine Fl.splitD rfl rfl ?_ ?_ <;> intro _ <;> try (exfalso; omega)) |fail)
          exact RetOk.of rfl (AV.Le.refl _)
end Go.Proofs.YtfkjhjgihbnegaaGreat
namespace Go.AL
section
variable {P : Program} {tab : Tab} {n : Nat} {s : St}
variable {ops : Array Oper} {draw : Dr} {o : Oper} {l : List Oper} {acc : List Eff} {K : Exit → St → Prop}
theorem Fl.neV [f : Facts P tab] {t t' : TypeId} {x y : Operand} (hop : o.op = .binOp .neq t x y t') {cs ds : List AV} (hx : opd s x = .agg cs) (hy : opd s y = .agg ds) {us vs : List Value} (h1 : litL cs = some us) (h2 : litL ds = some vs) (r0 : Bool) (hg : gOk ops s o = true) (hd : dOk n o.dst = true)
    (hgd : ∀ w : World, (eqGuard .neq t x y (.agg us.toArray) (.agg vs.toArray)).run P w = .ok () w) (hrun : ∀ w : World, (binOp .neq t (.agg us.toArray) (.agg vs.toArray)).run P w = .ok (.bool r0) w)
    (r : Fl P n ops draw l ((Eff.mk (.v (.bool r0)) [] [] [] []).app o.dst s) (Eff.mk (.v (.bool r0)) [] [] [] [] :: acc) K) : Fl P n ops draw (o :: l) s acc K := by
  refine Fl.opv hg (OpJ.of_run (tb := []) (dOk_lt hd) fun C s' a w h β ho _ k => ?_) r
  have hxr := opd_rep k x
  have hyr := opd_rep k y
  rw [ho x (by rw [hop]; simp [Op.operands]), hx] at hxr
  rw [ho y (by rw [hop]; simp [Op.operands]), hy] at hyr
  simp only [Rep] at hxr hyr
  obtain ⟨us', e1, hr1⟩ := hxr
  obtain ⟨vs', e2, hr2⟩ := hyr
  have e3 : us' = us.toArray := by rw [← litL_rep h1 hr1]
  have e4 : vs' = vs.toArray := by rw [← litL_rep h2 hr2]
  refine ⟨.bool r0, ?_, by simp only [Rep]⟩
  simp only [execOp, hop, e1, e2, e3, e4, Sem.run_bind, hgd w, Result.andThen, hrun w, Sem.run_pure]
/-- fields that are ints, compared with themselves -/
theorem eqFields_self (w : World) (d : Nat) (xs : Array Value) : ∀ fs : List Field, (∀ f ∈ fs, P.underlying f.type = some (.int .i64) ∧ ∃ a, (part f.type xs f.offset).run P w = .ok (.int .i64 a) w) → (Op.eqFields (d + 1) xs xs fs).run P w = .ok true w
  | [], _ => by simp [Op.eqFields]
  | f :: fs, h => by
    obtain ⟨h1, a, h2⟩ := h f (by simp)
    have ih := eqFields_self w d xs fs fun g hg => h g (by simp [hg])
    unfold Op.eqFields
    split
    · simp only [Sem.run_bind, h2, Result.andThen_ok, run_equalIn_int w d f.type .i64 .i64 a a h1, beq_self_eq_true, Bool.not_true, Bool.false_eq_true, if_false]
      exact ih
    · exact ih
end
theorem holdsR_all {f g : LZ → Bool} : ∀ {ls : List LZ}, (∀ l ∈ ls, f l = true) → holdsR f g ls = (ls.all g, 0)
  | [], _ => rfl
  | l :: ls, h => by
    unfold holdsR
    rw [if_pos (h l (by simp))]
    cases hg : g l with
    | true => simp [hg, holdsR_all (ls := ls) fun x hx => h x (by simp [hx])]
    | false => simp [hg]
end Go.AL
namespace Go.Proofs.YtfkjhjgihbnegaaGreat
open Go.AL

theorem cnt_part (a0 a1 a2 a3 a4 a5 : Int) (w : World) : ∀ i : Nat, i < 6 → ∃ a, (part 3 #[.int .i64 a0, .int .i64 a1, .int .i64 a2, .int .i64 a3, .int .i64 a4, .int .i64 a5] i).run Tryz.prog w = .ok (.int .i64 a) w
  | 0, _ => ⟨a0, by kernel_rfl⟩
  | 1, _ => ⟨a1, by kernel_rfl⟩
  | 2, _ => ⟨a2, by kernel_rfl⟩
  | 3, _ => ⟨a3, by kernel_rfl⟩
  | 4, _ => ⟨a4, by kernel_rfl⟩
  | 5, _ => ⟨a5, by kernel_rfl⟩
  | i + 6, h => by omega
theorem cnt_fields : ((Tryz.prog.fieldsOf 29).toList.all fun f => decide (f.type = 3) && decide (f.offset < 6)) = true := by kernel_rfl
theorem cnt_neq (c : CT) (w : World) : (binOp .neq 29 (.agg [.int .i64 c.v, .int .i64 c.e, .int .i64 c.p, .int .i64 c.w, .int .i64 c.u, .int .i64 c.d].toArray) (.agg [.int .i64 c.v, .int .i64 c.e, .int .i64 c.p, .int .i64 c.w, .int .i64 c.u, .int .i64 c.d].toArray)).run Tryz.prog w = .ok (.bool false) w := by
  rw [run_neq_struct]
  have h : ∀ f ∈ (Tryz.prog.fieldsOf 29).toList, Tryz.prog.underlying f.type = some (.int .i64) ∧ ∃ a, (part f.type [Value.int .i64 c.v, .int .i64 c.e, .int .i64 c.p, .int .i64 c.w, .int .i64 c.u, .int .i64 c.d].toArray f.offset).run Tryz.prog w = .ok (.int .i64 a) w := fun f hf => by
    have hh := List.all_eq_true.1 cnt_fields f hf
    simp only [Bool.and_eq_true, decide_eq_true_eq] at hh
    rw [hh.1]
    exact ⟨Tryz.underlying3, cnt_part c.v c.e c.p c.w c.u c.d w f.offset hh.2⟩
  have h2 := run_equalIn_agg (P := Tryz.prog) w 9999 29 [Value.int .i64 c.v, .int .i64 c.e, .int .i64 c.p, .int .i64 c.w, .int .i64 c.u, .int .i64 c.d].toArray [Value.int .i64 c.v, .int .i64 c.e, .int .i64 c.p, .int .i64 c.w, .int .i64 c.u, .int .i64 c.d].toArray (by kernel_rfl) (by kernel_rfl)
  rw [show (10000 : Nat) = 9999 + 1 from rfl, h2, eqFields_self w 9998 _ _ h]
  rfl
end Go.Proofs.YtfkjhjgihbnegaaGreat
namespace Go.AL
/-- valid numbers, as integers -/
theorem zs_map {zs : List Z} (hz : ∀ z ∈ zs, WOk z.w) (hzz : ∀ z ∈ zs, OkZ z) : ∃ X : List Int, zs = X.map zOf ∧ ∀ x ∈ X, Fit x := by
  refine ⟨zs.map zval, ?_, fun x hx => ?_⟩
  · rw [List.map_map]
    conv => lhs; rw [← List.map_id zs]
    exact List.map_congr_left fun z hz' => (okZ_eq (hz z hz') (hzz z hz')).1
  · obtain ⟨z, hz', rfl⟩ := List.mem_map.1 hx
    exact (okZ_eq (hz z hz') (hzz z hz')).2
end Go.AL
namespace Go.Proofs.YtfkjhjgihbnegaaGreat
open Go.AL

set_option maxHeartbeats 4000000 in
theorem SystemHolds_ok (s : SZ) (zs : List Z) (hw : WS s) (hwl : WLS s) (hz : ∀ z ∈ zs, WOk z.w) (hzl : ∀ z ∈ zs, z.w.length ≤ 9223372036854775807) : PureFn Tryz.prog 3 [aS s, .sl 2 eZ zs] (aB true) := by
  refine PureFn.of_body Tryz.func3 rfl Tryz.ntmps3 rfl rfl ?_
  obtain ⟨fo, hfo⟩ := boolOf (fun s : SZ => OkS s)
  have hW := Wide_ok s zs 600 hw hwl (fo s) (hfo s)
  have hlen := @wideB_len (fo s) s zs 600
  by_cases hwb : wideB (fo s) s zs 600 = true
  · rw [hwb] at hW
    have hlen := hlen hwb
    by_cases hs : OkS s
    · have hV := sValid_ok s hw true ⟨fun _ => hs, fun _ => rfl⟩
      have hR := r9Valid_ok s hw hwl true ⟨fun _ => hs, fun _ => rfl⟩
      have hC := Counts_ok s hw hs
      have hRC := rCounts_ok s hs
      have hneq := cnt_neq (cntR s.vars s.links)
      revert hC hRC hneq
      generalize cntR s.vars s.links = c
      intro hC hRC hneq
      have hAll := rAll_ok zs hz hzl (by omega)
      by_cases hzz : ∀ z ∈ zs, OkZ z
      · rw [decide_eq_true hzz] at hAll
        obtain ⟨X, hX, hXf⟩ := zs_map hz hzz
        have hl' : X.length ≤ 1000000000 := by rw [hX] at hlen; simp at hlen; omega
        have hlz : zs.length = X.length := by rw [hX]; simp
        have hle : LeL [.sl 2 eZ zs] [.sl 2 eX X] := by rw [hX]; exact LeL.cons (AV.Le.slMap (enc := eZ) (f := zOf)) LeL.nil
        have hNat := (rNaturals_ok X hl').le hle (AV.Le.refl _)
        by_cases h2 : (X.length : Int) = s.vars ∧ ∀ x ∈ X, 0 ≤ x
        · rw [decide_eq_true h2.2] at hNat
          have hfo1 : fo s = true := (hfo s).2 hs
          rw [hfo1] at hwb
          have hld := wideB_load hwb (by omega)
          rw [hX] at hld
          have hload := load_of (M := 600) hw hs hXf hld
          have has : ∀ l ∈ s.links, AsL X l := fun l hl => as_of_load (by omega) (hs.links l hl) (hload l hl)
          obtain ⟨f, hf⟩ := boolOf (fun l : LZ => EvL X l)
          obtain ⟨g, hg⟩ := boolOf (fun l : LZ => HoL X l)
          have hH := (Holds_ok s X hw hs hXf h2.1 h2.2 f g hf hg).le (LeL.cons (AV.Le.refl _) hle) (AV.Le.refl _)
          rw [holdsR_all fun l hl => (hf l).2 (has l hl).ev] at hH
          have hRH := (rHolds_ok s X hw hs h2.1 600 (by omega) hload has (s.links.all g) (by rw [List.all_eq_true]; exact forall_congr' fun l => forall_congr' fun _ => hg l)).le (LeL.cons (AV.Le.refl _) hle) (AV.Le.refl _)
          revert hH hRH
          generalize s.links.all g = b
          intro hH hRH
          cases b
          all_goals
            repeat' (first |refine Fl.v rfl rfl rfl ?_ |refine Fl.nilF ?_ |refine AWP.seq ?_ |refine AWP.region ?_ |refine Fl.b rfl rfl rfl rfl ?_ |fail)
            refine Fl.call rfl (hW) rfl rfl rfl (LeL.refl _) ?_
            repeat' (first |refine Fl.v rfl rfl rfl ?_ |refine Fl.nilF ?_ |refine AWP.seq ?_ |refine AWP.region ?_ |refine AWP.condF rfl ?_ |refine AWP.skip ?_ |fail)
            refine Fl.call rfl (hC) rfl rfl rfl (LeL.refl _) ?_
            repeat' (first |refine Fl.v rfl rfl rfl ?_ |refine Fl.nilF ?_ |refine AWP.seq ?_ |refine AWP.region ?_ |refine Fl.b rfl rfl rfl rfl ?_ |fail)
            refine Fl.call rfl (hH) rfl rfl rfl (LeL.refl _) ?_
            repeat' (first |refine Fl.v rfl rfl rfl ?_ |refine Fl.nilF ?_ |refine AWP.seq ?_ |refine AWP.region ?_ |fail)
            refine Fl.call rfl (hV) rfl rfl rfl (LeL.refl _) ?_
            repeat' (first |refine Fl.v rfl rfl rfl ?_ |fail)
            refine Fl.call rfl (hR) rfl rfl rfl (LeL.refl _) ?_
            repeat' (first |refine Fl.v rfl rfl rfl ?_ |refine Fl.nil (fun _ => by kernel_rfl) ?_ |refine AWP.seq ?_ |refine AWP.region ?_ |refine AWP.condF rfl ?_ |refine AWP.skip ?_ |fail)
            refine Fl.call rfl (hR) rfl rfl rfl (LeL.refl _) ?_
            repeat' (first |refine Fl.v rfl rfl rfl ?_ |refine Fl.nilF ?_ |refine AWP.seq ?_ |refine AWP.region ?_ |refine AWP.condF rfl ?_ |refine AWP.skip ?_ |(refine Fl.splitN rfl rfl ?_ ?_ <;> intro _ <;> try (exfalso; omega)) |fail)
            refine Fl.call rfl (hRC) rfl rfl rfl (LeL.refl _) ?_
            skip
            refine Fl.neV rfl rfl rfl rfl rfl false rfl rfl (fun w => by kernel_rfl) hneq ?_
            repeat' (first |refine Fl.v rfl rfl rfl ?_ |refine Fl.nil (fun _ => by kernel_rfl) ?_ |refine AWP.seq ?_ |refine AWP.region ?_ |refine AWP.condF rfl ?_ |refine AWP.block ?_ |refine AWP.skip ?_ |fail)
            refine Fl.call rfl (hAll) rfl rfl rfl (LeL.refl _) ?_
            repeat' (first |refine Fl.v rfl rfl rfl ?_ |refine Fl.nilF ?_ |refine AWP.seq ?_ |refine AWP.region ?_ |refine AWP.condF rfl ?_ |(refine Fl.splitN rfl rfl ?_ ?_ <;> intro _ <;> try (exfalso; omega)) |fail)
            refine Fl.call rfl (hNat) rfl rfl rfl (LeL.refl _) ?_
            repeat' (first |refine Fl.v rfl rfl rfl ?_ |refine Fl.nilF ?_ |refine AWP.seq ?_ |refine AWP.region ?_ |refine AWP.condF rfl ?_ |refine AWP.skip ?_ |fail)
            refine Fl.call rfl (hRH) rfl rfl rfl (LeL.refl _) ?_
            repeat' (first |refine Fl.v rfl rfl rfl ?_ |refine Fl.nilF ?_ |refine AWP.seq ?_ |refine AWP.region ?_ |refine Fl.skip rfl rfl ?_ |refine AWP.ret ?_ |(refine Fl.splitD rfl rfl ?_ ?_ <;> intro _ <;> try (exfalso; omega)) |fail)
            refine Fl.call rfl (awake_ok) rfl rfl rfl (LeL.refl _) ?_
            repeat' (first |refine Fl.v rfl rfl rfl ?_ |refine Fl.nilF ?_ |refine AWP.ret ?_ |fail)
            · exact RetOk.of rfl (AV.Le.refl _)
            all_goals (rename_i h; exact absurd rfl h)
        · have hH := (Holds_arg s X hw hs hXf hl' h2).le (LeL.cons (AV.Le.refl _) hle) (AV.Le.refl _)
          repeat' (first |refine Fl.v rfl rfl rfl ?_ |refine Fl.nilF ?_ |refine AWP.seq ?_ |refine AWP.region ?_ |refine Fl.b rfl rfl rfl rfl ?_ |fail)
          refine Fl.call rfl (hW) rfl rfl rfl (LeL.refl _) ?_
          repeat' (first |refine Fl.v rfl rfl rfl ?_ |refine Fl.nilF ?_ |refine AWP.seq ?_ |refine AWP.region ?_ |refine AWP.condF rfl ?_ |refine AWP.skip ?_ |fail)
          refine Fl.call rfl (hC) rfl rfl rfl (LeL.refl _) ?_
          repeat' (first |refine Fl.v rfl rfl rfl ?_ |refine Fl.nilF ?_ |refine AWP.seq ?_ |refine AWP.region ?_ |refine Fl.b rfl rfl rfl rfl ?_ |fail)
          refine Fl.call rfl (hH) rfl rfl rfl (LeL.refl _) ?_
          repeat' (first |refine Fl.v rfl rfl rfl ?_ |refine Fl.nilF ?_ |refine AWP.seq ?_ |refine AWP.region ?_ |fail)
          refine Fl.call rfl (hV) rfl rfl rfl (LeL.refl _) ?_
          repeat' (first |refine Fl.v rfl rfl rfl ?_ |fail)
          refine Fl.call rfl (hR) rfl rfl rfl (LeL.refl _) ?_
          repeat' (first |refine Fl.v rfl rfl rfl ?_ |refine Fl.nil (fun _ => by kernel_rfl) ?_ |refine AWP.seq ?_ |refine AWP.region ?_ |refine AWP.condF rfl ?_ |refine AWP.skip ?_ |fail)
          refine Fl.call rfl (hR) rfl rfl rfl (LeL.refl _) ?_
          repeat' (first |refine Fl.v rfl rfl rfl ?_ |refine Fl.nilF ?_ |refine AWP.seq ?_ |refine AWP.region ?_ |refine AWP.condF rfl ?_ |refine AWP.skip ?_ |(refine Fl.splitN rfl rfl ?_ ?_ <;> intro _ <;> try (exfalso; omega)) |fail)
          refine Fl.call rfl (hRC) rfl rfl rfl (LeL.refl _) ?_
          skip
          refine Fl.neV rfl rfl rfl rfl rfl false rfl rfl (fun w => by kernel_rfl) hneq ?_
          repeat' (first |refine Fl.v rfl rfl rfl ?_ |refine Fl.nil (fun _ => by kernel_rfl) ?_ |refine AWP.seq ?_ |refine AWP.region ?_ |refine AWP.condF rfl ?_ |refine AWP.block ?_ |refine AWP.skip ?_ |fail)
          refine Fl.call rfl (hAll) rfl rfl rfl (LeL.refl _) ?_
          repeat' (first |refine Fl.v rfl rfl rfl ?_ |refine Fl.nilF ?_ |refine AWP.seq ?_ |refine AWP.region ?_ |refine Fl.skip rfl rfl ?_ |refine AWP.condT rfl ?_ |refine AWP.condF rfl ?_ |(refine Fl.splitN rfl rfl ?_ ?_ <;> intro _ <;> try (exfalso; omega)) |fail)
          · refine Fl.call rfl (awake_ok) rfl rfl rfl (LeL.refl _) ?_
            repeat' (first |refine Fl.v rfl rfl rfl ?_ |refine Fl.nilF ?_ |refine AWP.ret ?_ |fail)
            exact RetOk.of rfl (AV.Le.refl _)
          · rename_i hne
            rw [decide_eq_false fun k => h2 ⟨by omega, k⟩] at hNat
            refine Fl.call rfl (hNat) rfl rfl rfl (LeL.refl _) ?_
            repeat' (first |refine Fl.v rfl rfl rfl ?_ |refine Fl.nilF ?_ |refine AWP.seq ?_ |refine AWP.region ?_ |refine AWP.condT rfl ?_ |fail)
            refine Fl.call rfl (awake_ok) rfl rfl rfl (LeL.refl _) ?_
            repeat' (first |refine Fl.v rfl rfl rfl ?_ |refine Fl.nilF ?_ |refine AWP.ret ?_ |fail)
            exact RetOk.of rfl (AV.Le.refl _)
      · rw [decide_eq_false hzz] at hAll
        have hH := Holds_form s zs hw hz (by omega) fun h => hzz h.2
        repeat' (first |refine Fl.v rfl rfl rfl ?_ |refine Fl.nilF ?_ |refine AWP.seq ?_ |refine AWP.region ?_ |refine Fl.b rfl rfl rfl rfl ?_ |fail)
        refine Fl.call rfl (hW) rfl rfl rfl (LeL.refl _) ?_
        repeat' (first |refine Fl.v rfl rfl rfl ?_ |refine Fl.nilF ?_ |refine AWP.seq ?_ |refine AWP.region ?_ |refine AWP.condF rfl ?_ |refine AWP.skip ?_ |fail)
        refine Fl.call rfl (hC) rfl rfl rfl (LeL.refl _) ?_
        repeat' (first |refine Fl.v rfl rfl rfl ?_ |refine Fl.nilF ?_ |refine AWP.seq ?_ |refine AWP.region ?_ |refine Fl.b rfl rfl rfl rfl ?_ |fail)
        refine Fl.call rfl (hH) rfl rfl rfl (LeL.refl _) ?_
        repeat' (first |refine Fl.v rfl rfl rfl ?_ |refine Fl.nilF ?_ |refine AWP.seq ?_ |refine AWP.region ?_ |fail)
        refine Fl.call rfl (hV) rfl rfl rfl (LeL.refl _) ?_
        repeat' (first |refine Fl.v rfl rfl rfl ?_ |fail)
        refine Fl.call rfl (hR) rfl rfl rfl (LeL.refl _) ?_
        repeat' (first |refine Fl.v rfl rfl rfl ?_ |refine Fl.nil (fun _ => by kernel_rfl) ?_ |refine AWP.seq ?_ |refine AWP.region ?_ |refine AWP.condF rfl ?_ |refine AWP.skip ?_ |fail)
        refine Fl.call rfl (hR) rfl rfl rfl (LeL.refl _) ?_
        repeat' (first |refine Fl.v rfl rfl rfl ?_ |refine Fl.nilF ?_ |refine AWP.seq ?_ |refine AWP.region ?_ |refine AWP.condF rfl ?_ |refine AWP.skip ?_ |(refine Fl.splitN rfl rfl ?_ ?_ <;> intro _ <;> try (exfalso; omega)) |fail)
        refine Fl.call rfl (hRC) rfl rfl rfl (LeL.refl _) ?_
        skip
        refine Fl.neV rfl rfl rfl rfl rfl false rfl rfl (fun w => by kernel_rfl) hneq ?_
        repeat' (first |refine Fl.v rfl rfl rfl ?_ |refine Fl.nil (fun _ => by kernel_rfl) ?_ |refine AWP.seq ?_ |refine AWP.region ?_ |refine AWP.condF rfl ?_ |refine AWP.block ?_ |refine AWP.skip ?_ |fail)
        refine Fl.call rfl (hAll) rfl rfl rfl (LeL.refl _) ?_
        repeat' (first |refine Fl.v rfl rfl rfl ?_ |refine Fl.nilF ?_ |refine AWP.seq ?_ |refine AWP.region ?_ |refine AWP.condT rfl ?_ |fail)
        refine Fl.call rfl (awake_ok) rfl rfl rfl (LeL.refl _) ?_
        repeat' (first |refine Fl.v rfl rfl rfl ?_ |refine Fl.nilF ?_ |refine AWP.ret ?_ |fail)
        exact RetOk.of rfl (AV.Le.refl _)
    · have hV := sValid_ok s hw false ⟨fun k => (by cases k), fun k => absurd k hs⟩
      have hR := r9Valid_ok s hw hwl false ⟨fun k => (by cases k), fun k => absurd k hs⟩
      have hC := Counts_form s hw hs
      have hH := Holds_form s zs hw hz (by omega) fun h => hs h.1
      repeat' (first |refine Fl.v rfl rfl rfl ?_ |refine Fl.nilF ?_ |refine AWP.seq ?_ |refine AWP.region ?_ |refine Fl.b rfl rfl rfl rfl ?_ |fail)
      refine Fl.call rfl (hW) rfl rfl rfl (LeL.refl _) ?_
      repeat' (first |refine Fl.v rfl rfl rfl ?_ |refine Fl.nilF ?_ |refine AWP.seq ?_ |refine AWP.region ?_ |refine AWP.condF rfl ?_ |refine AWP.skip ?_ |fail)
      refine Fl.call rfl (hC) rfl rfl rfl (LeL.refl _) ?_
      repeat' (first |refine Fl.v rfl rfl rfl ?_ |refine Fl.nilF ?_ |refine AWP.seq ?_ |refine AWP.region ?_ |refine Fl.b rfl rfl rfl rfl ?_ |fail)
      refine Fl.call rfl (hH) rfl rfl rfl (LeL.refl _) ?_
      repeat' (first |refine Fl.v rfl rfl rfl ?_ |refine Fl.nilF ?_ |refine AWP.seq ?_ |refine AWP.region ?_ |fail)
      refine Fl.call rfl (hV) rfl rfl rfl (LeL.refl _) ?_
      repeat' (first |refine Fl.v rfl rfl rfl ?_ |fail)
      refine Fl.call rfl (hR) rfl rfl rfl (LeL.refl _) ?_
      repeat' (first |refine Fl.v rfl rfl rfl ?_ |refine Fl.nil (fun _ => by kernel_rfl) ?_ |refine AWP.seq ?_ |refine AWP.region ?_ |refine AWP.condF rfl ?_ |refine AWP.skip ?_ |fail)
      refine Fl.call rfl (hR) rfl rfl rfl (LeL.refl _) ?_
      repeat' (first |refine Fl.v rfl rfl rfl ?_ |refine Fl.nilF ?_ |refine AWP.seq ?_ |refine AWP.region ?_ |refine Fl.b rfl rfl rfl rfl ?_ |refine AWP.condT rfl ?_ |(refine Fl.splitD rfl rfl ?_ ?_ <;> intro _ <;> try (exfalso; omega)) |fail)
      refine Fl.eqV rfl rfl rfl rfl rfl true rfl rfl (fun w => by kernel_rfl) (fun w => by kernel_rfl) ?_
      repeat' (first |refine Fl.v rfl rfl rfl ?_ |fail)
      refine Fl.call rfl (awake_ok) rfl rfl rfl (LeL.refl _) ?_
      repeat' (first |refine Fl.v rfl rfl rfl ?_ |refine Fl.nilF ?_ |refine AWP.ret ?_ |fail)
      exact RetOk.of rfl (AV.Le.refl _)
  · rw [Bool.eq_false_iff.2 hwb] at hW
    repeat' (first |refine Fl.v rfl rfl rfl ?_ |refine Fl.nilF ?_ |refine AWP.seq ?_ |refine AWP.region ?_ |refine Fl.b rfl rfl rfl rfl ?_ |fail)
    refine Fl.call rfl (hW) rfl rfl rfl (LeL.refl _) ?_
    repeat' (first |refine Fl.v rfl rfl rfl ?_ |refine Fl.nilF ?_ |refine AWP.seq ?_ |refine AWP.region ?_ |refine AWP.condT rfl ?_ |fail)
    refine Fl.call rfl (awake_ok) rfl rfl rfl (LeL.refl _) ?_
    repeat' (first |refine Fl.v rfl rfl rfl ?_ |refine Fl.nilF ?_ |refine AWP.ret ?_ |fail)
    exact RetOk.of rfl (AV.Le.refl _)
end Go.Proofs.YtfkjhjgihbnegaaGreat
/- SystemValue returns true, for every system and all numbers. -/
namespace Go.AL
theorem loadP_of {x : PZ} {X : List Int} {M : Nat} (hw : WP x) (hP : OkP x) (hX : ∀ y ∈ X, Fit y) (hl : (X.length : Int) = x.vars) (h : ldP (X.map zOf) x.terms ≤ M) : ∀ t ∈ x.terms, lenI (zval t.c) + loadE X t.e ≤ M := fun t ht => by
  have hT := hP.terms t ht
  have hpt : ∀ (m : Int) (t : TZ), m ≤ mxI m (ldT (X.map zOf) t) := fun m t => (mxI_ge _ _).1
  obtain ⟨m3, h4⟩ := (foldl_up hpt x.terms 0).2 t ht
  have h5 := (mxI_ge m3 (ldT (X.map zOf) t)).2
  have g3 : ldT (X.map zOf) t ≤ ldP (X.map zOf) x.terms := Int.le_trans h5 h4
  have h6 : ldT (X.map zOf) t ≤ M := by omega
  rw [ldT_eq (X := X) hT hX hl hP.v1] at h6
  have hc := (okZ_eq (hw t ht) hT.coef).1
  have hlen : lenI (zval t.c) = t.c.w.length := by
    conv => rhs; rw [hc]
    rfl
  omega
theorem wideB_links {b : Bool} {s : SZ} {zs : List Z} {most : Int} (h : wideB b s zs most = true) : s.links.length ≤ 6000 := by
  unfold wideB at h
  split at h
  · rename_i h1; have := (lightB_len h1).1; omega
  · split at h
    · cases h
    · omega
theorem rvR_all2 {f : LZ → Bool} {X : List Int} : ∀ (ls : List LZ) (o : Int), (∀ l ∈ ls, f l = true) → 0 ≤ o → Fit o → ((Fit (o + sqS X ls) ∧ rvR f X ls o = (o + sqS X ls, true)) ∨ (¬ Fit (o + sqS X ls) ∧ (rvR f X ls o).2 = false))
  | [], o, _, h0, h1 => .inl ⟨by simpa [sqS, sumL] using h1, by simp [rvR, sqS, sumL]⟩
  | l :: ls, o, hf, h0, h1 => by
    have hq := sq_nonneg (fv X l)
    have hs : sqS X (l :: ls) = fv X l * fv X l + sqS X ls := rfl
    have hn : 0 ≤ sqS X ls := by have := sqS_take X ls ls.length; rw [List.take_length] at this; exact this.1
    rw [rvR, if_pos (hf l (by simp)), hs]
    by_cases h2 : Fit (o + fv X l * fv X l)
    · rw [if_pos ⟨h2.le (by omega), h2⟩]
      have ih := rvR_all2 (X := X) ls (o + fv X l * fv X l) (fun l hl => hf l (by simp [hl])) (by omega) h2
      rw [show o + (fv X l * fv X l + sqS X ls) = o + fv X l * fv X l + sqS X ls by omega]
      exact ih
    · rw [if_neg fun k => h2 k.2]
      exact .inr ⟨fun h => h2 (h.le (by omega)), rfl⟩
def kz (ls : List LZ) : Bool := ls.all fun l => decide (l.kind = 0)
theorem kz_snoc {ls : List LZ} {i : Nat} {l : LZ} (h : ls[i]? = some l) : kz (ls.take (i + 1)) = (kz (ls.take i) && decide (l.kind = 0)) := by
  rw [take_snoc h]; simp [kz]
theorem kz_iff {ls : List LZ} : kz ls = true ↔ ∀ l ∈ ls, l.kind = 0 := by simp [kz]
theorem sq_zero (X : List Int) : ∀ ls : List LZ, (∀ l ∈ ls, l.kind = 0) → (sqS X ls = 0 ↔ ∀ l ∈ ls, HoL X l) := by
  intro ls
  have hnn : ∀ ls : List LZ, 0 ≤ sqS X ls := fun ls => sumL_nonneg fun x hx => by
    obtain ⟨l, _, rfl⟩ := List.mem_map.1 hx; exact sq_nonneg _
  induction ls with
  | nil => intro _; simp [sqS, sumL]
  | cons l ls ih =>
    intro hk
    have h1 := ih fun m hm => hk m (by simp [hm])
    have h2 := hnn ls
    have h3 := sq_nonneg (fv X l)
    have e : sqS X (l :: ls) = fv X l * fv X l + sqS X ls := rfl
    have hHo : HoL X l ↔ fv X l = 0 := by
      unfold HoL holdP
      rw [hk l (by simp)]
      rfl
    rw [e]
    constructor
    · intro h0
      have h4 : fv X l * fv X l = 0 := by omega
      have h5 : fv X l = 0 := by rcases Int.mul_eq_zero.1 h4 with h | h <;> exact h
      intro m hm
      rcases List.mem_cons.1 hm with rfl | hm
      · exact hHo.2 h5
      · exact h1.1 (by omega) m hm
    · intro hall
      have h5 := hHo.1 (hall l (by simp))
      have h6 := h1.2 fun m hm => hall m (by simp [hm])
      rw [h5, h6]; rfl
end Go.AL
namespace Go.Proofs.YtfkjhjgihbnegaaGreat
open Go.AL

theorem Value_form (s : SZ) (zs : List Z) (hw : WS s) (hz : ∀ z ∈ zs, WOk z.w) (hl : zs.length ≤ 1000000000) (h : ¬ (OkS s ∧ ∀ z ∈ zs, OkZ z)) : PureFn Tryz.prog 26 [aS s, .sl 2 eZ zs] (.tup [aX 0, aN 1]) := by
  refine PureFn.of_body Tryz.func26 rfl Tryz.ntmps26 rfl rfl ?_
  repeat' (first |refine Fl.v rfl rfl rfl ?_ |refine Fl.nilF ?_ |refine AWP.seq ?_ |refine AWP.region ?_ |refine Fl.b rfl rfl rfl rfl ?_ |refine AWP.block ?_ |fail)
  by_cases hs : OkS s
  · refine Fl.call rfl (sValid_ok s hw true ⟨fun _ => hs, fun _ => rfl⟩) rfl rfl rfl (LeL.refl _) ?_
    repeat' (first |refine Fl.v rfl rfl rfl ?_ |fail)
    have hv := chValid_ok zs hz hl
    rw [decide_eq_false fun k => h ⟨hs, k⟩] at hv
    refine Fl.call rfl (hv) rfl rfl rfl (LeL.refl _) ?_
    repeat' (first |refine Fl.v rfl rfl rfl ?_ |refine Fl.nilF ?_ |refine AWP.seq ?_ |refine AWP.region ?_ |refine Fl.b rfl rfl rfl rfl ?_ |refine AWP.condT rfl ?_ |refine AWP.ret ?_ |fail)
    exact RetOk.of rfl (AV.Le.tup (LeL.cons aX_zero (LeL.refl _)))
  · refine Fl.call rfl (sValid_ok s hw false ⟨fun k => (by cases k), fun k => absurd k hs⟩) rfl rfl rfl (LeL.refl _) ?_
    repeat' (first |refine Fl.v rfl rfl rfl ?_ |refine Fl.nilF ?_ |refine AWP.seq ?_ |refine AWP.region ?_ |refine Fl.b rfl rfl rfl rfl ?_ |refine Fl.skip rfl rfl ?_ |refine AWP.condT rfl ?_ |refine AWP.ret ?_ |fail)
    exact RetOk.of rfl (AV.Le.tup (LeL.cons aX_zero (LeL.refl _)))
theorem Value_arg (s : SZ) (X : List Int) (hw : WS s) (hs : OkS s) (hX : ∀ x ∈ X, Fit x) (hl : X.length ≤ 1000000000) (h : ¬ ((∀ l ∈ s.links, l.kind = 0) ∧ (X.length : Int) = s.vars ∧ ∀ x ∈ X, 0 ≤ x)) : PureFn Tryz.prog 26 [aS s, .sl 2 eX X] (.tup [aX 0, aN 2]) := by
  refine PureFn.of_body Tryz.func26 rfl Tryz.ntmps26 rfl rfl ?_
  have hsl := hs.len
  by_cases hk : ∀ l ∈ s.links, l.kind = 0
  · repeat' (first |refine Fl.v rfl rfl rfl ?_ |refine Fl.nilF ?_ |refine AWP.seq ?_ |refine AWP.region ?_ |refine Fl.b rfl rfl rfl rfl ?_ |refine AWP.block ?_ |fail)
    refine Fl.call rfl (sValid_ok s hw true ⟨fun _ => hs, fun _ => rfl⟩) rfl rfl rfl (LeL.refl _) ?_
    repeat' (first |refine Fl.v rfl rfl rfl ?_ |fail)
    refine Fl.call rfl (chValidX_ok X hX hl) rfl rfl rfl (LeL.refl _) ?_
    repeat' (first |refine Fl.v rfl rfl rfl ?_ |refine Fl.nilF ?_ |refine AWP.seq ?_ |refine AWP.region ?_ |refine AWP.condF rfl ?_ |fail)
    refine Fl.call rfl (equations_ok s (by omega) true ⟨fun _ => hk, fun _ => rfl⟩) rfl rfl rfl (LeL.refl _) ?_
    repeat' (first |refine Fl.v rfl rfl rfl ?_ |refine Fl.nilF ?_ |refine AWP.seq ?_ |refine AWP.region ?_ |refine Fl.b rfl rfl rfl rfl ?_ |refine Fl.skip rfl rfl ?_ |refine AWP.condT rfl ?_ |refine AWP.ret ?_ |(refine Fl.splitN rfl rfl ?_ ?_ <;> intro _ <;> try (exfalso; omega)) |fail)
    · exact RetOk.of rfl (AV.Le.tup (LeL.cons aX_zero (LeL.refl _)))
    · rename_i hlen
      have hv := chNatural_ok X hl
      rw [decide_eq_false fun k => h ⟨hk, hlen, k⟩] at hv
      refine Fl.call rfl (hv) rfl rfl rfl (LeL.refl _) ?_
      repeat' (first |refine Fl.v rfl rfl rfl ?_ |refine Fl.nilF ?_ |refine AWP.seq ?_ |refine AWP.region ?_ |refine Fl.b rfl rfl rfl rfl ?_ |refine AWP.condT rfl ?_ |refine AWP.ret ?_ |fail)
      exact RetOk.of rfl (AV.Le.tup (LeL.cons aX_zero (LeL.refl _)))
  · repeat' (first |refine Fl.v rfl rfl rfl ?_ |refine Fl.nilF ?_ |refine AWP.seq ?_ |refine AWP.region ?_ |refine Fl.b rfl rfl rfl rfl ?_ |refine AWP.block ?_ |fail)
    refine Fl.call rfl (sValid_ok s hw true ⟨fun _ => hs, fun _ => rfl⟩) rfl rfl rfl (LeL.refl _) ?_
    repeat' (first |refine Fl.v rfl rfl rfl ?_ |fail)
    refine Fl.call rfl (chValidX_ok X hX hl) rfl rfl rfl (LeL.refl _) ?_
    repeat' (first |refine Fl.v rfl rfl rfl ?_ |refine Fl.nilF ?_ |refine AWP.seq ?_ |refine AWP.region ?_ |refine AWP.condF rfl ?_ |fail)
    refine Fl.call rfl (equations_ok s (by omega) false ⟨fun k => (by cases k), fun k => absurd k hk⟩) rfl rfl rfl (LeL.refl _) ?_
    repeat' (first |refine Fl.v rfl rfl rfl ?_ |refine Fl.nilF ?_ |refine AWP.seq ?_ |refine AWP.region ?_ |refine Fl.b rfl rfl rfl rfl ?_ |refine Fl.skip rfl rfl ?_ |refine AWP.condT rfl ?_ |refine AWP.ret ?_ |fail)
    exact RetOk.of rfl (AV.Le.tup (LeL.cons aX_zero (LeL.refl _)))

set_option maxHeartbeats 4000000 in
theorem SystemValue_ok (s : SZ) (zs : List Z) (hw : WS s) (hwl : WLS s) (hz : ∀ z ∈ zs, WOk z.w) (hzl : ∀ z ∈ zs, z.w.length ≤ 9223372036854775807) : PureFn Tryz.prog 6 [aS s, .sl 2 eZ zs] (aB true) := by
  refine PureFn.of_body Tryz.func6 rfl Tryz.ntmps6 rfl rfl ?_
  obtain ⟨fo, hfo⟩ := boolOf (fun s : SZ => OkS s)
  have hW := Wide_ok s zs 600 hw hwl (fo s) (hfo s)
  have hLi := Light_ok s zs 600 hw hwl (fo s) (hfo s)
  have hlen := @wideB_len (fo s) s zs 600
  by_cases hwb : wideB (fo s) s zs 600 = true
  · rw [hwb] at hW
    have hlen := hlen hwb
    have hsl : s.links.length ≤ 20000 ∨ ¬ OkS s := (Classical.em (OkS s)).elim (fun h => .inl h.len) .inr
    -- what Value returns
    have hvals : ∃ v e : Int, PureFn Tryz.prog 26 [aS s, .sl 2 eZ zs] (.tup [aX v, aN e]) ∧
        ((¬ OkS s ∧ v = 0 ∧ e = 1) ∨ (OkS s ∧ (¬ ∀ z ∈ zs, OkZ z) ∧ v = 0 ∧ e = 1) ∨
        ∃ X : List Int, OkS s ∧ (∀ z ∈ zs, OkZ z) ∧ zs = X.map zOf ∧ (∀ x ∈ X, Fit x) ∧ (((¬ ((∀ l ∈ s.links, l.kind = 0) ∧ (X.length : Int) = s.vars ∧ ∀ x ∈ X, 0 ≤ x)) ∧ v = 0 ∧ e = 2) ∨
          (((∀ l ∈ s.links, l.kind = 0) ∧ (X.length : Int) = s.vars ∧ ∀ x ∈ X, 0 ≤ x) ∧ (∀ l ∈ s.links, LoadL 600 X l) ∧ ((¬ Fit (sqS X s.links) ∧ v = 0 ∧ e = 4) ∨ (Fit (sqS X s.links) ∧ v = sqS X s.links ∧ e = 0))))) := by
      by_cases hs : OkS s
      · by_cases hzz : ∀ z ∈ zs, OkZ z
        · obtain ⟨X, hX, hXf⟩ := zs_map hz hzz
          have hlz : zs.length = X.length := by rw [hX]; simp
          have hle : LeL [.sl 2 eZ zs] [.sl 2 eX X] := by rw [hX]; exact LeL.cons (AV.Le.slMap (enc := eZ) (f := zOf)) LeL.nil
          by_cases h2 : (∀ l ∈ s.links, l.kind = 0) ∧ (X.length : Int) = s.vars ∧ ∀ x ∈ X, 0 ≤ x
          · have hfo1 : fo s = true := (hfo s).2 hs
            rw [hfo1] at hwb
            have hld := wideB_load hwb (by omega)
            rw [hX] at hld
            have hload := load_of (M := 600) hw hs hXf hld
            have has : ∀ l ∈ s.links, AsL X l := fun l hl => as_of_load (by omega) (hs.links l hl) (hload l hl)
            by_cases hf : Fit (sqS X s.links)
            · exact ⟨_, 0, (sValue_ok s X hw hs hXf h2.1 h2.2.1 h2.2.2 _ (fun _ _ => rfl) (fun k => absurd ⟨fun l hl => (has l hl).ev, hf⟩ k)).le (LeL.cons (AV.Le.refl _) hle) (AV.Le.refl _), .inr (.inr ⟨X, hs, hzz, hX, hXf, .inr ⟨h2, hload, .inr ⟨hf, rfl, rfl⟩⟩⟩)⟩
            · exact ⟨0, 4, (sValue_ok s X hw hs hXf h2.1 h2.2.1 h2.2.2 _ (fun _ k => absurd k hf) (fun _ => rfl)).le (LeL.cons (AV.Le.refl _) hle) (AV.Le.refl _), .inr (.inr ⟨X, hs, hzz, hX, hXf, .inr ⟨h2, hload, .inl ⟨hf, rfl, rfl⟩⟩⟩)⟩
          · exact ⟨0, 2, (Value_arg s X hw hs hXf (by omega) h2).le (LeL.cons (AV.Le.refl _) hle) (AV.Le.refl _), .inr (.inr ⟨X, hs, hzz, hX, hXf, .inl ⟨h2, rfl, rfl⟩⟩)⟩
        · exact ⟨0, 1, Value_form s zs hw hz (by omega) fun h => hzz h.2, .inr (.inl ⟨hs, hzz, rfl, rfl⟩)⟩
      · exact ⟨0, 1, Value_form s zs hw hz (by omega) fun h => hs h.1, .inl ⟨hs, rfl, rfl⟩⟩
    obtain ⟨v, e, hVal, hcs⟩ := hvals
    have hmx := wideB_links hwb
    repeat' (first |refine Fl.v rfl rfl rfl ?_ |refine Fl.nilF ?_ |refine AWP.seq ?_ |refine AWP.region ?_ |refine Fl.b rfl rfl rfl rfl ?_ |fail)
    refine Fl.call rfl (hW) rfl rfl rfl (LeL.refl _) ?_
    repeat' (first |refine Fl.v rfl rfl rfl ?_ |refine Fl.nilF ?_ |refine AWP.seq ?_ |refine AWP.region ?_ |refine AWP.condF rfl ?_ |refine AWP.skip ?_ |fail)
    refine Fl.call rfl (hVal) rfl rfl rfl (LeL.refl _) ?_
    repeat' (first |refine Fl.v rfl rfl rfl ?_ |refine Fl.nilF ?_ |refine AWP.seq ?_ |refine AWP.region ?_ |refine Fl.b rfl rfl rfl rfl ?_ |refine AWP.block ?_ |fail)
    refine AWP.loop (G := Nat) (fun i => i ≤ s.links.length) (fun i => St.of [] [(1, .sl 2 eZ zs), (2, .ptr 2 0), (5, .ptr 5 0), (6, aN e), (7, aN 0), (8, aB (kz (s.links.take i))), (9, aN i)] [(2, .cells [aN s.vars, .sl 3 eL s.links] 24), (5, .cells (eX v) 58)]) (fun i => s.links.length - i) 0 (by omega) ?_ ?_
    · refine Ent.of [] ?_ ?_ rfl rfl
      repeat' (first | exact True.intro | refine ⟨⟨AV.Le.refl _, rfl⟩, ?_⟩ | refine ⟨⟨⟨_, rfl, BLe.cells (LeL.refl _)⟩, rfl⟩, ?_⟩ | refine ⟨⟨⟨_, rfl, BLe.row rfl⟩, rfl⟩, ?_⟩ | refine ⟨⟨⟨_, rfl, BLe.map rfl rfl⟩, rfl⟩, ?_⟩ | refine ⟨⟨⟨_, rfl, BLe.iter rfl rfl rfl rfl⟩, rfl⟩, ?_⟩ | refine ⟨⟨⟨_, rfl, BLe.iter rfl rfl ?_ rfl⟩, rfl⟩, ?_⟩ | refine ⟨⟨⟨_, rfl, BLe.row ?_⟩, rfl⟩, ?_⟩ | refine ⟨⟨⟨_, rfl, BLe.cells ?_⟩, rfl⟩, ?_⟩ | refine ⟨⟨AV.Le.int ?_, rfl⟩, ?_⟩ | refine ⟨⟨AV.Le.bool ?_, rfl⟩, ?_⟩ | refine ⟨⟨AV.Le.sl ?_, rfl⟩, ?_⟩ | refine ⟨⟨AV.Le.of_eq ?_, rfl⟩, ?_⟩ | refine ⟨⟨⟨_, rfl, BLe.map ?_ rfl⟩, rfl⟩, ?_⟩ | refine ⟨⟨⟨_, rfl, BLe.map ?_ ?_⟩, rfl⟩, ?_⟩ | fail)
    · intro i k0
      by_cases hi : i < s.links.length
      · obtain ⟨l, hl⟩ : ∃ l, s.links[i]? = some l := ⟨_, List.getElem?_eq_getElem hi⟩
        have hsn := kz_snoc hl
        generalize kz (s.links.take i) = b at hsn ⊢
        cases b
        · repeat' (first |refine Fl.v rfl rfl rfl ?_ |refine Fl.nilF ?_ |refine AWP.seq ?_ |refine AWP.region ?_ |refine Fl.w rfl rfl rfl (by first | exact True.intro | omega) ?_ |refine Fl.skip rfl rfl ?_ |(refine AWP.condD rfl ?_ ?_ <;> intro _ <;> try (exfalso; omega)) |refine AWP.block ?_ |refine AWP.skip ?_ |fail)
          refine LoopEnd.of (i + 1) (by omega) (by omega) ?_
          refine Ent.of [] ?_ ?_ rfl rfl
          repeat' (first | exact True.intro | refine ⟨⟨AV.Le.refl _, rfl⟩, ?_⟩ | refine ⟨⟨⟨_, rfl, BLe.cells (LeL.refl _)⟩, rfl⟩, ?_⟩ | refine ⟨⟨⟨_, rfl, BLe.row rfl⟩, rfl⟩, ?_⟩ | refine ⟨⟨⟨_, rfl, BLe.map rfl rfl⟩, rfl⟩, ?_⟩ | refine ⟨⟨⟨_, rfl, BLe.iter rfl rfl rfl rfl⟩, rfl⟩, ?_⟩ | refine ⟨⟨⟨_, rfl, BLe.iter rfl rfl ?_ rfl⟩, rfl⟩, ?_⟩ | refine ⟨⟨⟨_, rfl, BLe.row ?_⟩, rfl⟩, ?_⟩ | refine ⟨⟨⟨_, rfl, BLe.cells ?_⟩, rfl⟩, ?_⟩ | refine ⟨⟨AV.Le.int ?_, rfl⟩, ?_⟩ | refine ⟨⟨AV.Le.bool ?_, rfl⟩, ?_⟩ | refine ⟨⟨AV.Le.sl ?_, rfl⟩, ?_⟩ | refine ⟨⟨AV.Le.of_eq ?_, rfl⟩, ?_⟩ | refine ⟨⟨⟨_, rfl, BLe.map ?_ rfl⟩, rfl⟩, ?_⟩ | refine ⟨⟨⟨_, rfl, BLe.map ?_ ?_⟩, rfl⟩, ?_⟩ | fail)
          rw [hsn]; rfl
        · repeat' (first |refine Fl.v rfl rfl rfl ?_ |refine Fl.nilF ?_ |refine AWP.seq ?_ |refine AWP.region ?_ |refine Fl.w rfl rfl rfl (by first | exact True.intro | omega) ?_ |(refine AWP.condD rfl ?_ ?_ <;> intro _ <;> try (exfalso; omega)) |refine AWP.block ?_ |refine AWP.skip ?_ |refine Fl.elK rfl rfl rfl rfl rfl rfl rfl rfl (by assumption) (by omega) ?_ |fail)
          refine LoopEnd.of (i + 1) (by omega) (by omega) ?_
          refine Ent.of [] ?_ ?_ rfl rfl
          repeat' (first | exact True.intro | refine ⟨⟨AV.Le.refl _, rfl⟩, ?_⟩ | refine ⟨⟨⟨_, rfl, BLe.cells (LeL.refl _)⟩, rfl⟩, ?_⟩ | refine ⟨⟨⟨_, rfl, BLe.row rfl⟩, rfl⟩, ?_⟩ | refine ⟨⟨⟨_, rfl, BLe.map rfl rfl⟩, rfl⟩, ?_⟩ | refine ⟨⟨⟨_, rfl, BLe.iter rfl rfl rfl rfl⟩, rfl⟩, ?_⟩ | refine ⟨⟨⟨_, rfl, BLe.iter rfl rfl ?_ rfl⟩, rfl⟩, ?_⟩ | refine ⟨⟨⟨_, rfl, BLe.row ?_⟩, rfl⟩, ?_⟩ | refine ⟨⟨⟨_, rfl, BLe.cells ?_⟩, rfl⟩, ?_⟩ | refine ⟨⟨AV.Le.int ?_, rfl⟩, ?_⟩ | refine ⟨⟨AV.Le.bool ?_, rfl⟩, ?_⟩ | refine ⟨⟨AV.Le.sl ?_, rfl⟩, ?_⟩ | refine ⟨⟨AV.Le.of_eq ?_, rfl⟩, ?_⟩ | refine ⟨⟨⟨_, rfl, BLe.map ?_ rfl⟩, rfl⟩, ?_⟩ | refine ⟨⟨⟨_, rfl, BLe.map ?_ ?_⟩, rfl⟩, ?_⟩ | fail)
          rw [hsn]; rfl
      · rw [List.take_of_length_le (by omega)]
        have hl' : zs.length ≤ 1000000000 := by omega
        have hAll := rAll_ok zs hz hzl (by omega)
        rcases hcs with ⟨hs, rfl, rfl⟩ | ⟨hs, hzz, rfl, rfl⟩ | ⟨X, hs, hzz, hX, hXf, hcs⟩
        · have hR := r9Valid_ok s hw hwl false ⟨fun k => (by cases k), fun k => absurd k hs⟩
          repeat' (first |refine Fl.v rfl rfl rfl ?_ |refine Fl.nilF ?_ |refine AWP.seq ?_ |refine AWP.region ?_ |(refine AWP.condD rfl ?_ ?_ <;> intro _ <;> try (exfalso; omega)) |refine AWP.block ?_ |refine AWP.exit ?_ |fail)
          refine Fl.call rfl (hR) rfl rfl rfl (LeL.refl _) ?_
          repeat' (first |refine Fl.v rfl rfl rfl ?_ |refine Fl.nilF ?_ |refine AWP.seq ?_ |refine AWP.region ?_ |refine Fl.skip rfl rfl ?_ |refine AWP.condT rfl ?_ |(refine Fl.splitD rfl rfl ?_ ?_ <;> intro _ <;> try (exfalso; omega)) |fail)
          refine Fl.call rfl (rZeroX_ok 0) rfl rfl rfl (LeL.refl _) ?_
          repeat' (first |refine Fl.v rfl rfl rfl ?_ |(refine Fl.splitD rfl rfl ?_ ?_ <;> intro _ <;> try (exfalso; omega)) |fail)
          refine Fl.call rfl (awake_ok) rfl rfl rfl (LeL.refl _) ?_
          repeat' (first |refine Fl.v rfl rfl rfl ?_ |refine Fl.nilF ?_ |refine AWP.ret ?_ |fail)
          exact RetOk.of rfl (AV.Le.refl _)
        · have hR := r9Valid_ok s hw hwl true ⟨fun _ => hs, fun _ => rfl⟩
          rw [decide_eq_false hzz] at hAll
          repeat' (first |refine Fl.v rfl rfl rfl ?_ |refine Fl.nilF ?_ |refine AWP.seq ?_ |refine AWP.region ?_ |(refine AWP.condD rfl ?_ ?_ <;> intro _ <;> try (exfalso; omega)) |refine AWP.block ?_ |refine AWP.exit ?_ |fail)
          refine Fl.call rfl (hR) rfl rfl rfl (LeL.refl _) ?_
          repeat' (first |refine Fl.v rfl rfl rfl ?_ |fail)
          refine Fl.call rfl (hAll) rfl rfl rfl (LeL.refl _) ?_
          repeat' (first |refine Fl.v rfl rfl rfl ?_ |refine Fl.nilF ?_ |refine AWP.seq ?_ |refine AWP.region ?_ |refine AWP.condT rfl ?_ |(refine Fl.splitD rfl rfl ?_ ?_ <;> intro _ <;> try (exfalso; omega)) |fail)
          refine Fl.call rfl (rZeroX_ok 0) rfl rfl rfl (LeL.refl _) ?_
          repeat' (first |refine Fl.v rfl rfl rfl ?_ |(refine Fl.splitD rfl rfl ?_ ?_ <;> intro _ <;> try (exfalso; omega)) |fail)
          refine Fl.call rfl (awake_ok) rfl rfl rfl (LeL.refl _) ?_
          repeat' (first |refine Fl.v rfl rfl rfl ?_ |refine Fl.nilF ?_ |refine AWP.ret ?_ |fail)
          exact RetOk.of rfl (AV.Le.refl _)
        · have hR := r9Valid_ok s hw hwl true ⟨fun _ => hs, fun _ => rfl⟩
          rw [decide_eq_true hzz] at hAll
          have hlz : zs.length = X.length := by rw [hX]; simp
          have hle : LeL [.sl 2 eZ zs] [.sl 2 eX X] := by rw [hX]; exact LeL.cons (AV.Le.slMap (enc := eZ) (f := zOf)) LeL.nil
          have hNat := (rNaturals_ok X (by omega)).le hle (AV.Le.refl _)
          rcases hcs with ⟨h2, rfl, rfl⟩ | ⟨⟨hk, hvl, hnn⟩, hload, hcs⟩
          · cases hkz : kz s.links with
            | false =>
              repeat' (first |refine Fl.v rfl rfl rfl ?_ |refine Fl.nilF ?_ |refine AWP.seq ?_ |refine AWP.region ?_ |(refine AWP.condD rfl ?_ ?_ <;> intro _ <;> try (exfalso; omega)) |refine AWP.block ?_ |refine AWP.exit ?_ |fail)
              refine Fl.call rfl (hR) rfl rfl rfl (LeL.refl _) ?_
              repeat' (first |refine Fl.v rfl rfl rfl ?_ |fail)
              refine Fl.call rfl (hAll) rfl rfl rfl (LeL.refl _) ?_
              repeat' (first |refine Fl.v rfl rfl rfl ?_ |refine Fl.nilF ?_ |refine AWP.seq ?_ |refine AWP.region ?_ |refine Fl.skip rfl rfl ?_ |refine AWP.condT rfl ?_ |refine AWP.condF rfl ?_ |(refine Fl.splitD rfl rfl ?_ ?_ <;> intro _ <;> try (exfalso; omega)) |fail)
              refine Fl.call rfl (rZeroX_ok 0) rfl rfl rfl (LeL.refl _) ?_
              repeat' (first |refine Fl.v rfl rfl rfl ?_ |(refine Fl.splitD rfl rfl ?_ ?_ <;> intro _ <;> try (exfalso; omega)) |fail)
              refine Fl.call rfl (awake_ok) rfl rfl rfl (LeL.refl _) ?_
              repeat' (first |refine Fl.v rfl rfl rfl ?_ |refine Fl.nilF ?_ |refine AWP.ret ?_ |fail)
              exact RetOk.of rfl (AV.Le.refl _)
            | true =>
              have hk := kz_iff.1 hkz
              repeat' (first |refine Fl.v rfl rfl rfl ?_ |refine Fl.nilF ?_ |refine AWP.seq ?_ |refine AWP.region ?_ |(refine AWP.condD rfl ?_ ?_ <;> intro _ <;> try (exfalso; omega)) |refine AWP.block ?_ |refine AWP.exit ?_ |fail)
              refine Fl.call rfl (hR) rfl rfl rfl (LeL.refl _) ?_
              repeat' (first |refine Fl.v rfl rfl rfl ?_ |fail)
              refine Fl.call rfl (hAll) rfl rfl rfl (LeL.refl _) ?_
              repeat' (first |refine Fl.v rfl rfl rfl ?_ |refine Fl.nilF ?_ |refine AWP.seq ?_ |refine AWP.region ?_ |refine Fl.skip rfl rfl ?_ |refine AWP.condT rfl ?_ |refine AWP.condF rfl ?_ |(refine Fl.splitD rfl rfl ?_ ?_ <;> intro _ <;> try (exfalso; omega)) |(refine Fl.splitN rfl rfl ?_ ?_ <;> intro _ <;> try (exfalso; omega)) |fail)
              · refine Fl.call rfl (rZeroX_ok 0) rfl rfl rfl (LeL.refl _) ?_
                repeat' (first |refine Fl.v rfl rfl rfl ?_ |(refine Fl.splitD rfl rfl ?_ ?_ <;> intro _ <;> try (exfalso; omega)) |fail)
                refine Fl.call rfl (awake_ok) rfl rfl rfl (LeL.refl _) ?_
                repeat' (first |refine Fl.v rfl rfl rfl ?_ |refine Fl.nilF ?_ |refine AWP.ret ?_ |fail)
                exact RetOk.of rfl (AV.Le.refl _)
              · rename_i hv
                rw [decide_eq_false fun k => h2 ⟨hk, by omega, k⟩] at hNat
                refine Fl.call rfl (hNat) rfl rfl rfl (LeL.refl _) ?_
                repeat' (first |refine Fl.v rfl rfl rfl ?_ |refine Fl.nilF ?_ |refine AWP.seq ?_ |refine AWP.region ?_ |refine AWP.condT rfl ?_ |(refine Fl.splitD rfl rfl ?_ ?_ <;> intro _ <;> try (exfalso; omega)) |fail)
                refine Fl.call rfl (rZeroX_ok 0) rfl rfl rfl (LeL.refl _) ?_
                repeat' (first |refine Fl.v rfl rfl rfl ?_ |(refine Fl.splitD rfl rfl ?_ ?_ <;> intro _ <;> try (exfalso; omega)) |fail)
                refine Fl.call rfl (awake_ok) rfl rfl rfl (LeL.refl _) ?_
                repeat' (first |refine Fl.v rfl rfl rfl ?_ |refine Fl.nilF ?_ |refine AWP.ret ?_ |fail)
                exact RetOk.of rfl (AV.Le.refl _)
          · rw [kz_iff.2 hk]
            rw [decide_eq_true hnn] at hNat
            have has : ∀ l ∈ s.links, AsL X l := fun l hl => as_of_load (by omega) (hs.links l hl) (hload l hl)
            obtain ⟨f, hf⟩ := boolOf (fun l : LZ => AsL X l)
            have hRV := (rValue_ok s X hw (fun l hl => ⟨hvl ▸ hs.links l hl, hk l hl⟩) (by omega) 600 (by omega) hload f hf).le (LeL.cons (AV.Le.refl _) hle) (AV.Le.refl _)
            have hrv := rvR_all2 (f := f) (X := X) s.links 0 (fun l hl => (hf l).2 (has l hl)) (by omega) Fit.zero
            rw [Int.zero_add] at hrv
            rcases hcs with ⟨hnf, rfl, rfl⟩ | ⟨hft, rfl, rfl⟩
            · obtain ⟨_, hrv⟩ := hrv.resolve_left fun h => hnf h.1
              rw [hrv] at hRV
              repeat' (first |refine Fl.v rfl rfl rfl ?_ |refine Fl.nilF ?_ |refine AWP.seq ?_ |refine AWP.region ?_ |(refine AWP.condD rfl ?_ ?_ <;> intro _ <;> try (exfalso; omega)) |refine AWP.block ?_ |refine AWP.exit ?_ |fail)
              refine Fl.call rfl (hR) rfl rfl rfl (LeL.refl _) ?_
              repeat' (first |refine Fl.v rfl rfl rfl ?_ |fail)
              refine Fl.call rfl (hAll) rfl rfl rfl (LeL.refl _) ?_
              repeat' (first |refine Fl.v rfl rfl rfl ?_ |refine Fl.nilF ?_ |refine AWP.seq ?_ |refine AWP.region ?_ |refine AWP.condF rfl ?_ |(refine Fl.splitN rfl rfl ?_ ?_ <;> intro _ <;> try (exfalso; omega)) |fail)
              refine Fl.call rfl (hNat) rfl rfl rfl (LeL.refl _) ?_
              repeat' (first |refine Fl.v rfl rfl rfl ?_ |refine Fl.nilF ?_ |refine AWP.seq ?_ |refine AWP.region ?_ |refine AWP.condF rfl ?_ |refine AWP.skip ?_ |fail)
              refine Fl.call rfl (hRV) rfl rfl rfl (LeL.refl _) ?_
              repeat' (first |refine Fl.v rfl rfl rfl ?_ |refine Fl.nilF ?_ |refine AWP.seq ?_ |refine AWP.region ?_ |refine Fl.b rfl rfl rfl rfl ?_ |refine AWP.condT rfl ?_ |(refine Fl.splitD rfl rfl ?_ ?_ <;> intro _ <;> try (exfalso; omega)) |fail)
              refine Fl.call rfl (rZeroX_ok 0) rfl rfl rfl (LeL.refl _) ?_
              repeat' (first |refine Fl.v rfl rfl rfl ?_ |(refine Fl.splitD rfl rfl ?_ ?_ <;> intro _ <;> try (exfalso; omega)) |fail)
              refine Fl.call rfl (awake_ok) rfl rfl rfl (LeL.refl _) ?_
              repeat' (first |refine Fl.v rfl rfl rfl ?_ |refine Fl.nilF ?_ |refine AWP.ret ?_ |fail)
              exact RetOk.of rfl (AV.Le.refl _)
            · obtain ⟨_, hrv⟩ := hrv.resolve_right fun h => h.1 hft
              rw [hrv] at hRV
              obtain ⟨g1, hg1⟩ := boolOf (fun l : LZ => EvL X l)
              obtain ⟨g, hg⟩ := boolOf (fun l : LZ => HoL X l)
              have hH := (Holds_ok s X hw hs hXf hvl hnn g1 g hg1 hg).le (LeL.cons (AV.Le.refl _) hle) (AV.Le.refl _)
              rw [holdsR_all fun l hl => (hg1 l).2 (has l hl).ev] at hH
              have hz0 : (s.links.all g) = decide (sqS X s.links = 0) := by
                rw [Bool.eq_iff_iff, List.all_eq_true, decide_eq_true_eq, sq_zero X s.links hk]
                exact forall_congr' fun l => forall_congr' fun _ => hg l
              rw [hz0] at hH
              have hS := rSame_ok (sqS X s.links) (sqS X s.links) (by have := hft.len; omega)
              rw [decide_eq_true rfl] at hS
              have hZ := rZeroX_ok (sqS X s.links)
              revert hH hZ
              generalize decide (sqS X s.links = 0) = b
              intro hH hZ
              repeat' (first |refine Fl.v rfl rfl rfl ?_ |refine Fl.nilF ?_ |refine AWP.seq ?_ |refine AWP.region ?_ |(refine AWP.condD rfl ?_ ?_ <;> intro _ <;> try (exfalso; omega)) |refine AWP.block ?_ |refine AWP.exit ?_ |fail)
              refine Fl.call rfl (hR) rfl rfl rfl (LeL.refl _) ?_
              repeat' (first |refine Fl.v rfl rfl rfl ?_ |fail)
              refine Fl.call rfl (hAll) rfl rfl rfl (LeL.refl _) ?_
              repeat' (first |refine Fl.v rfl rfl rfl ?_ |refine Fl.nilF ?_ |refine AWP.seq ?_ |refine AWP.region ?_ |refine AWP.condF rfl ?_ |(refine Fl.splitN rfl rfl ?_ ?_ <;> intro _ <;> try (exfalso; omega)) |fail)
              refine Fl.call rfl (hNat) rfl rfl rfl (LeL.refl _) ?_
              repeat' (first |refine Fl.v rfl rfl rfl ?_ |refine Fl.nilF ?_ |refine AWP.seq ?_ |refine AWP.region ?_ |refine AWP.condF rfl ?_ |refine AWP.skip ?_ |fail)
              refine Fl.call rfl (hRV) rfl rfl rfl (LeL.refl _) ?_
              repeat' (first |refine Fl.v rfl rfl rfl ?_ |refine Fl.nilF ?_ |refine AWP.seq ?_ |refine AWP.region ?_ |refine Fl.b rfl rfl rfl rfl ?_ |refine AWP.condF rfl ?_ |refine AWP.skip ?_ |fail)
              refine Fl.call rfl (hH) rfl rfl rfl (LeL.refl _) ?_
              repeat' (first |refine Fl.v rfl rfl rfl ?_ |refine Fl.nilF ?_ |refine AWP.seq ?_ |refine AWP.region ?_ |(refine Fl.splitN rfl rfl ?_ ?_ <;> intro _ <;> try (exfalso; omega)) |fail)
              refine Fl.call rfl (hS) rfl rfl rfl (LeL.refl _) ?_
              repeat' (first |refine Fl.v rfl rfl rfl ?_ |(refine Fl.splitN rfl rfl ?_ ?_ <;> intro _ <;> try (exfalso; omega)) |fail)
              refine Fl.call rfl (hZ) rfl rfl rfl (LeL.refl _) ?_
              repeat' (first |refine Fl.v rfl rfl rfl ?_ |refine Fl.nilF ?_ |refine AWP.seq ?_ |refine AWP.region ?_ |(refine AWP.condN rfl ?_ ?_ <;> intro _ <;> try (exfalso; omega)) |refine AWP.skip ?_ |refine AWP.ret ?_ |fail)
              · rename_i hh; exact absurd rfl hh
              by_cases hlb : lightB (fo s) s zs 600 = true
              · rw [hlb] at hLi
                refine Fl.call rfl (hLi) rfl rfl rfl (LeL.refl _) ?_
                repeat' (first |refine Fl.v rfl rfl rfl ?_ |refine Fl.nilF ?_ |refine AWP.seq ?_ |refine AWP.region ?_ |refine AWP.condF rfl ?_ |refine AWP.skip ?_ |fail)
                obtain ⟨V, hVs⟩ : ∃ V : Nat, s.vars = V := ⟨s.vars.toNat, by have := hs.v0; omega⟩
                have hXV : X.length = V := by omega
                have hlk : ∀ l ∈ s.links, OkL V l ∧ WL l ∧ l.kind = 0 := fun l hl => ⟨hVs ▸ hs.links l hl, hw l hl, hk l hl⟩
                by_cases hbad : 32 < V ∨ oneV V ⟨V, []⟩ s.links = none
                · have hOne := One_ok s hw hs hk (.tup [aP ⟨0, []⟩, aN 4]) V hVs (fun _ => rfl) (fun h x hx => by
                    rcases hbad with hb | hb
                    · omega
                    · rw [hb] at hx; cases hx) (fun _ _ => rfl)
                  refine Fl.call rfl (hOne) rfl rfl rfl (LeL.refl _) ?_
                  repeat' (first |refine Fl.v rfl rfl rfl ?_ |refine Fl.nilF ?_ |refine AWP.seq ?_ |refine AWP.region ?_ |refine Fl.b rfl rfl rfl rfl ?_ |refine Fl.skip rfl rfl ?_ |refine AWP.condF rfl ?_ |refine AWP.skip ?_ |fail)
                  refine Fl.call rfl (awake_ok) rfl rfl rfl (LeL.refl _) ?_
                  repeat' (first |refine Fl.v rfl rfl rfl ?_ |refine Fl.nilF ?_ |refine AWP.ret ?_ |fail)
                  exact RetOk.of rfl (AV.Le.refl _)
                · have hV : V ≤ 32 := by omega
                  obtain ⟨x, hx⟩ : ∃ x, oneV V ⟨V, []⟩ s.links = some x := by
                    cases hq : oneV V ⟨V, []⟩ s.links with
                    | none => exact absurd (.inr hq) hbad
                    | some x => exact ⟨x, rfl⟩
                  obtain ⟨x1, x2, x3, x4⟩ := oneV_ok hV X hXV hlk (okP_nil hV) wp_nil rfl hx
                  have hx4 : pv X x = sqS X s.links := by
                    rw [x4, pv_sum]
                    simp [sumL]
                  have hOne := One_ok s hw hs hk (.tup [aP x, aN 0]) V hVs (fun h => by omega) (fun _ y hy => by rw [hx] at hy; injection hy with hy; rw [hy]) (fun _ hy => by rw [hx] at hy; cases hy)
                  have hLd := rLoad_ok x zs x1 (by omega)
                  refine Fl.call rfl (hOne) rfl rfl rfl (LeL.refl _) ?_
                  repeat' (first |refine Fl.v rfl rfl rfl ?_ |refine Fl.nilF ?_ |refine AWP.seq ?_ |refine AWP.region ?_ |refine Fl.b rfl rfl rfl rfl ?_ |(refine Fl.splitD rfl rfl ?_ ?_ <;> intro _ <;> try (exfalso; omega)) |fail)
                  refine Fl.call rfl (hLd) rfl rfl rfl (LeL.refl _) ?_
                  repeat' (first |refine Fl.v rfl rfl rfl ?_ |refine Fl.nilF ?_ |refine AWP.seq ?_ |refine AWP.region ?_ |(refine AWP.condD rfl ?_ ?_ <;> intro _ <;> try (exfalso; omega)) |refine AWP.skip ?_ |fail)
                  · rename_i hld
                    have hld2 : ldP (X.map zOf) x.terms ≤ (600 : Nat) := by rw [← hX]; omega
                    have hEv := (rEval_ok x X x2 x1 (by omega) 600 (by omega) (loadP_of x2 x1 hXf (by omega) hld2)).le (LeL.cons (AV.Le.refl _) hle) (AV.Le.refl _)
                    rw [TS_eq, hx4] at hEv
                    refine Fl.call rfl (hEv) rfl rfl rfl (LeL.refl _) ?_
                    repeat' (first |refine Fl.v rfl rfl rfl ?_ |refine Fl.nilF ?_ |refine AWP.seq ?_ |refine AWP.region ?_ |refine Fl.b rfl rfl rfl rfl ?_ |fail)
                    refine Fl.call rfl (hS) rfl rfl rfl (LeL.refl _) ?_
                    repeat' (first |refine Fl.v rfl rfl rfl ?_ |fail)
                    refine Fl.call rfl (awake_ok) rfl rfl rfl (LeL.refl _) ?_
                    repeat' (first |refine Fl.v rfl rfl rfl ?_ |refine Fl.nilF ?_ |refine AWP.ret ?_ |fail)
                    exact RetOk.of rfl (AV.Le.refl _)
                  · refine Fl.call rfl (awake_ok) rfl rfl rfl (LeL.refl _) ?_
                    repeat' (first |refine Fl.v rfl rfl rfl ?_ |refine Fl.nilF ?_ |refine AWP.ret ?_ |fail)
                    exact RetOk.of rfl (AV.Le.refl _)
              · rw [Bool.eq_false_iff.2 hlb] at hLi
                refine Fl.call rfl (hLi) rfl rfl rfl (LeL.refl _) ?_
                repeat' (first |refine Fl.v rfl rfl rfl ?_ |refine Fl.nilF ?_ |refine AWP.seq ?_ |refine AWP.region ?_ |refine AWP.condT rfl ?_ |fail)
                refine Fl.call rfl (awake_ok) rfl rfl rfl (LeL.refl _) ?_
                repeat' (first |refine Fl.v rfl rfl rfl ?_ |refine Fl.nilF ?_ |refine AWP.ret ?_ |fail)
                exact RetOk.of rfl (AV.Le.refl _)
  · rw [Bool.eq_false_iff.2 hwb] at hW
    repeat' (first |refine Fl.v rfl rfl rfl ?_ |refine Fl.nilF ?_ |refine AWP.seq ?_ |refine AWP.region ?_ |refine Fl.b rfl rfl rfl rfl ?_ |fail)
    refine Fl.call rfl (hW) rfl rfl rfl (LeL.refl _) ?_
    repeat' (first |refine Fl.v rfl rfl rfl ?_ |refine Fl.nilF ?_ |refine AWP.seq ?_ |refine AWP.region ?_ |refine AWP.condT rfl ?_ |fail)
    refine Fl.call rfl (awake_ok) rfl rfl rfl (LeL.refl _) ?_
    repeat' (first |refine Fl.v rfl rfl rfl ?_ |refine Fl.nilF ?_ |refine AWP.ret ?_ |fail)
    exact RetOk.of rfl (AV.Le.refl _)
end Go.Proofs.YtfkjhjgihbnegaaGreat
namespace Go.AL
/-- what a system in memory is -/
def TB (t : TZ) : Prop := ZB t.c
def PB (p : PZ) : Prop := (∀ t ∈ p.terms, TB t) ∧ p.terms.length ≤ maxLen
def LB (l : LZ) : Prop := (∀ p ∈ l.polys, PB p) ∧ l.polys.length ≤ maxLen
def SB (s : SZ) : Prop := ∀ l ∈ s.links, LB l
theorem SB.ws {s : SZ} (h : SB s) : WS s := fun l hl p hp t ht => (((h l hl).1 p hp).1 t ht).1
theorem SB.wls {s : SZ} (h : SB s) : WLS s := fun l hl => ⟨by have := (h l hl).2; simp only [maxLen] at this; omega, fun p hp => ⟨by have := ((h l hl).1 p hp).2; simp only [maxLen] at this; omega, fun t ht => by have := (((h l hl).1 p hp).1 t ht).2; simp only [maxLen] at this; omega⟩⟩
end Go.AL
namespace Go.Proofs.YtfkjhjgihbnegaaGreat
open Go.AL Go.ChangeShapes Go.WideShapes Go.ChangeAt Go.RowKit

section
variable {H : Type} {enc : TypeId × Value → H} {w : World} {base : Nat} {spare : Nat → Bool} {held : Bool}
theorem trodIs {fuel : Nat} {cs : List Value} {x : DataW H × List MemPlace} (h : DataW.trod enc Tryz.prog w base spare held fuel 48 cs = some x) : ∃ (xs : List Int) (u : Value), cs = [u] ∧ Rep (hpOf w) noB (aI xs) u := by
  obtain ⟨xs, u, h1, h2, _⟩ := trodSlice 1 eI (fun n => True) Tryz.underlying48 (by kernel_rfl) (fun fuel us y _ hy => by
    obtain ⟨n, rfl, hn⟩ := trodInt Tryz.underlying3 hy
    exact ⟨n, ⟨_, _, rfl, by simp only [Rep], rfl⟩, trivial⟩) h
  exact ⟨xs, u, h1, h2⟩
theorem trodXs {fuel : Nat} {cs : List Value} {x : DataW H × List MemPlace} (h : DataW.trod enc Tryz.prog w base spare held fuel 25 cs = some x) : ∃ (xs : List Z) (u : Value), cs = [u] ∧ Rep (hpOf w) noB (.sl 2 eZ xs) u ∧ (∀ z ∈ xs, ZB z) ∧ xs.length ≤ maxLen :=
  trodSlice 2 eZ ZB Tryz.underlying25 (by kernel_rfl) (fun fuel us y _ hy => trodZ hy) h
theorem trodT {fuel : Nat} {cs : List Value} {x : DataW H × List MemPlace} (h : DataW.trod enc Tryz.prog w base spare held fuel 68 cs = some x) : ∃ t : TZ, RepL (hpOf w) noB (eT t) cs ∧ TB t := by
  obtain ⟨y0, y1, n, _, hl, h0, h1⟩ := trod_struct2 Tryz.underlying68 h
  have hc : Tryz.prog.cellsOf 68 = 3 := by kernel_rfl
  have hb : Tryz.prog.cellsOf 58 = 2 := by kernel_rfl
  have hs : Tryz.prog.cellsOf 48 = 1 := by kernel_rfl
  rw [hc] at hl
  obtain ⟨c0, c1, c2, rfl⟩ := list3 hl
  simp only [hb, hs, List.drop_zero, List.take_succ_cons, List.take_zero, List.drop_succ_cons] at h0 h1
  obtain ⟨z, ⟨_, _, e0, r0, ⟨_, _, e1, r1, e2⟩⟩, hz⟩ := trodZ h0
  obtain ⟨xs, u, e3, hr⟩ := trodIs h1
  injection e0 with e0 e0'; subst e0 e0'
  injection e1 with e1 e1'; subst e1
  injection e3 with e3; subst e3
  exact ⟨⟨z, xs⟩, ⟨_, _, rfl, r0, ⟨_, _, rfl, r1, ⟨_, _, rfl, hr, rfl⟩⟩⟩, hz⟩
theorem trodTs {fuel : Nat} {cs : List Value} {x : DataW H × List MemPlace} (h : DataW.trod enc Tryz.prog w base spare held fuel 43 cs = some x) : ∃ (xs : List TZ) (u : Value), cs = [u] ∧ Rep (hpOf w) noB (.sl 3 eT xs) u ∧ (∀ z ∈ xs, TB z) ∧ xs.length ≤ maxLen :=
  trodSlice 3 eT TB Tryz.underlying43 (by kernel_rfl) (fun fuel us y _ hy => trodT hy) h
theorem trodP {fuel : Nat} {cs : List Value} {x : DataW H × List MemPlace} (h : DataW.trod enc Tryz.prog w base spare held fuel 45 cs = some x) : ∃ t : PZ, RepL (hpOf w) noB (eP t) cs ∧ PB t := by
  obtain ⟨y0, y1, n, _, hl, h0, h1⟩ := trod_struct2 Tryz.underlying45 h
  have hc : Tryz.prog.cellsOf 45 = 2 := by kernel_rfl
  have hb : Tryz.prog.cellsOf 3 = 1 := by kernel_rfl
  have hs : Tryz.prog.cellsOf 43 = 1 := by kernel_rfl
  rw [hc] at hl
  obtain ⟨c0, c1, rfl⟩ := list2 hl
  simp only [hb, hs, List.drop_zero, List.take_succ_cons, List.take_zero, List.drop_succ_cons] at h0 h1
  obtain ⟨n, e0, hn⟩ := trodInt Tryz.underlying3 h0
  obtain ⟨xs, u, e1, hr, hw⟩ := trodTs h1
  injection e0 with e0; injection e1 with e1; subst e0 e1
  exact ⟨⟨n, xs⟩, ⟨_, _, rfl, by simp only [Rep], ⟨_, _, rfl, hr, rfl⟩⟩, hw⟩
theorem trodPs {fuel : Nat} {cs : List Value} {x : DataW H × List MemPlace} (h : DataW.trod enc Tryz.prog w base spare held fuel 49 cs = some x) : ∃ (xs : List PZ) (u : Value), cs = [u] ∧ Rep (hpOf w) noB (.sl 2 eP xs) u ∧ (∀ z ∈ xs, PB z) ∧ xs.length ≤ maxLen :=
  trodSlice 2 eP PB Tryz.underlying49 (by kernel_rfl) (fun fuel us y _ hy => trodP hy) h
theorem trodL {fuel : Nat} {cs : List Value} {x : DataW H × List MemPlace} (h : DataW.trod enc Tryz.prog w base spare held fuel 51 cs = some x) : ∃ t : LZ, RepL (hpOf w) noB (eL t) cs ∧ LB t := by
  obtain ⟨y0, y1, y2, n, _, hl, h0, h1, h2⟩ := Go.Deep.trod_struct3 Tryz.underlying51 h
  have hc : Tryz.prog.cellsOf 51 = 3 := by kernel_rfl
  have hb : Tryz.prog.cellsOf 3 = 1 := by kernel_rfl
  have hs : Tryz.prog.cellsOf 48 = 1 := by kernel_rfl
  have hs2 : Tryz.prog.cellsOf 49 = 1 := by kernel_rfl
  rw [hc] at hl
  obtain ⟨c0, c1, c2, rfl⟩ := list3 hl
  simp only [hb, hs, hs2, List.drop_zero, List.take_succ_cons, List.take_zero, List.drop_succ_cons] at h0 h1 h2
  obtain ⟨n, e0, hn⟩ := trodInt Tryz.underlying3 h0
  obtain ⟨vs, u, e1, hr⟩ := trodIs h1
  obtain ⟨ps, v, e2, hr2, hw⟩ := trodPs h2
  injection e0 with e0; injection e1 with e1; injection e2 with e2; subst e0 e1 e2
  exact ⟨⟨n, vs, ps⟩, ⟨_, _, rfl, by simp only [Rep], ⟨_, _, rfl, hr, ⟨_, _, rfl, hr2, rfl⟩⟩⟩, hw⟩
theorem trodLs {fuel : Nat} {cs : List Value} {x : DataW H × List MemPlace} (h : DataW.trod enc Tryz.prog w base spare held fuel 22 cs = some x) : ∃ (xs : List LZ) (u : Value), cs = [u] ∧ Rep (hpOf w) noB (.sl 3 eL xs) u ∧ (∀ z ∈ xs, LB z) ∧ xs.length ≤ maxLen :=
  trodSlice 3 eL LB Tryz.underlying22 (by kernel_rfl) (fun fuel us y _ hy => trodL hy) h
theorem trodSys {fuel : Nat} {cs : List Value} {x : DataW H × List MemPlace} (h : DataW.trod enc Tryz.prog w base spare held fuel 24 cs = some x) : ∃ s : SZ, RepL (hpOf w) noB [aN s.vars, .sl 3 eL s.links] cs ∧ SB s := by
  obtain ⟨y0, y1, n, _, hl, h0, h1⟩ := trod_struct2 Tryz.underlying24 h
  have hc : Tryz.prog.cellsOf 24 = 2 := by kernel_rfl
  have hb : Tryz.prog.cellsOf 3 = 1 := by kernel_rfl
  have hs : Tryz.prog.cellsOf 22 = 1 := by kernel_rfl
  rw [hc] at hl
  obtain ⟨c0, c1, rfl⟩ := list2 hl
  simp only [hb, hs, List.drop_zero, List.take_succ_cons, List.take_zero, List.drop_succ_cons] at h0 h1
  obtain ⟨n, e0, hn⟩ := trodInt Tryz.underlying3 h0
  obtain ⟨xs, u, e1, hr, hw⟩ := trodLs h1
  injection e0 with e0; injection e1 with e1; subst e0 e1
  exact ⟨⟨n, xs⟩, ⟨_, _, rfl, by simp only [Rep], ⟨_, _, rfl, hr, rfl⟩⟩, hw.1⟩
end
end Go.Proofs.YtfkjhjgihbnegaaGreat
