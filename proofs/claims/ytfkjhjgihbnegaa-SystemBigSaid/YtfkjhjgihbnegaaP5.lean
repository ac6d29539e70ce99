/- Part 5 of a proof layer and of the contracts of the functions (XH0 XH1 XJ0 XJ1 XJ2 XJ3 XJ4). -/
import Derived.ProofKit
import Derived.OpenShut
import Derived.Carry
import Derived.ChangeSame
import Derived.ReadAgain
import Derived.Test.YtfkjhjgihbnegaaRows
import Derived.Test.YtfkjhjgihbnegaaP4
set_option linter.unusedVariables false
set_option linter.unusedSimpArgs false
/- From what a claim's arguments read as to abstract values over the memory as it stands. -/
namespace Go.AL
/-- all cells of a world -/
def hpOf (w : World) : Hp := fun b => match w.heap[b]? with | some (.cells cs _ _) => some cs | _ => none
theorem hpOf_has (w : World) : Has w (hpOf w) := fun b cs h => by
  unfold hpOf at h
  split at h
  · rename_i cs' t fr hb
    injection h with h; subst h
    exact ⟨t, fr, hb⟩
  · cases h
theorem hcell_of {w : World} {a : Addr} {u : Value} (h : w.cell? a = some u) : hcell (hpOf w) a u := by
  unfold World.cell? at h
  split at h
  · rename_i c t fr hb
    split at h
    · cases h
    · rename_i hs
      exact ⟨by simpa using hs, c, by simp [hpOf, hb], h⟩
  · cases h
theorem mapM_get {α β : Type} {f : α → Option β} : ∀ {l : List α} {r : List β}, l.mapM f = some r → r.length = l.length ∧ ∀ (i : Nat) (x : α) (y : β), l[i]? = some x → r[i]? = some y → f x = some y
  | [], r, h => by
    simp at h; subst h; simp
  | x :: l, r, h => by
    simp only [List.mapM_cons, Option.bind_eq_bind, Option.bind_eq_some_iff, Option.pure_def, Option.some.injEq] at h
    obtain ⟨y, h1, ys, h2, rfl⟩ := h
    obtain ⟨h3, h4⟩ := mapM_get h2
    refine ⟨by simp [h3], fun i a b ha hb => ?_⟩
    cases i with
    | zero => simp at ha hb; subst ha hb; exact h1
    | succ i => exact h4 i a b (by simpa using ha) (by simpa using hb)
theorem cells_of {w : World} {base : Nat} {a : Addr} {n : Nat} {cs : List Value} (h : w.cells? base a n = some cs) : cs.length = n ∧ ∀ (j : Nat) (u : Value), cs[j]? = some u → hcell (hpOf w) (a.add j) u := by
  unfold World.cells? at h
  split at h
  · obtain ⟨h1, h2⟩ := mapM_get h
    rw [List.length_range] at h1
    refine ⟨h1, fun j u hu => hcell_of ?_⟩
    have hj : j < n := by rw [← h1]; exact (List.getElem?_eq_some_iff.1 hu).1
    exact h2 j j u (by simp [hj]) hu
  · cases h
section
variable {H : Type} {enc : TypeId × Value → H} {P : Program} {w : World} {base : Nat} {spare : Nat → Bool} {held : Bool}
theorem trodInt {t : TypeId} {k : IntKind} {fuel : Nat} {cs : List Value} {x : DataW H × List MemPlace} (ht : P.underlying t = some (.int k)) (h : DataW.trod enc P w base spare held fuel t cs = some x) : ∃ n, cs = [.int k n] ∧ (Lit.int k n).wf = true := by
  cases fuel with
  | zero => simp [DataW.trod] at h
  | succ fuel =>
    simp only [DataW.trod, ht] at h
    split at h <;> simp_all
theorem trodBool {t : TypeId} {fuel : Nat} {cs : List Value} {x : DataW H × List MemPlace} (ht : P.underlying t = some .bool) (h : DataW.trod enc P w base spare held fuel t cs = some x) : ∃ b, cs = [.bool b] := by
  cases fuel with
  | zero => simp [DataW.trod] at h
  | succ fuel =>
    simp only [DataW.trod, ht] at h
    split at h <;> simp_all
/-- A slice: so many elements, of each what its cells say. -/
theorem trodSlice {α : Type} (sz : Nat) (en : α → List AV) (Q : α → Prop) {t e : TypeId} {fuel : Nat} {cs : List Value} {x : DataW H × List MemPlace} (ht : P.underlying t = some (.slice e)) (hsz : P.cellsOf e = sz)
    (hel : ∀ (fuel : Nat) (us : List Value) (y : DataW H × List MemPlace), us.length = sz → DataW.trod enc P w base spare held fuel e us = some y → ∃ a, RepL (hpOf w) noB (en a) us ∧ Q a)
    (h : DataW.trod enc P w base spare held fuel t cs = some x) : ∃ (xs : List α) (u : Value), cs = [u] ∧ Rep (hpOf w) noB (.sl sz en xs) u ∧ (∀ a ∈ xs, Q a) ∧ xs.length ≤ maxLen := by
  cases fuel with
  | zero => simp [DataW.trod] at h
  | succ fuel =>
    simp only [DataW.trod, ht] at h
    split at h <;> try (simp_all; done)
    · refine ⟨[], _, rfl, ?_, by simp, by simp [maxLen]⟩
      simp only [Rep]
      exact ⟨none, 0, rfl, by simp, by simp [maxLen], fun i y hy => by simp at hy⟩
    · rename_i e' a len cap heq
      injection heq with heq; injection heq with heq; subst heq
      split at h
      · rename_i hc
        simp only [Option.bind_eq_some_iff] at h
        obtain ⟨elems, h1, _⟩ := h
        obtain ⟨h2, h3⟩ := mapM_get h1
        rw [List.length_range] at h2
        have hall : ∀ i, i < len → ∃ (us : List Value) (a' : α), us.length = sz ∧ (∀ (j : Nat) (u : Value), us[j]? = some u → hcell (hpOf w) ((a.add (i * sz)).add j) u) ∧ RepL (hpOf w) noB (en a') us ∧ Q a' := by
          intro i hi
          have := h3 i i (elems[i]'(by omega)) (by simp [hi]) (List.getElem?_eq_getElem _)
          simp only [Option.bind_eq_some_iff] at this
          obtain ⟨us, hu1, hu2⟩ := this
          rw [hsz] at hu1
          obtain ⟨hu3, hu4⟩ := cells_of hu1
          obtain ⟨a', ha1, ha2⟩ := hel fuel us _ hu3 hu2
          exact ⟨us, a', hu3, hu4, ha1, ha2⟩
        have hex : ∃ xs : List α, xs.length = len ∧ ∀ (i : Nat) (y : α), xs[i]? = some y → ∃ us : List Value, us.length = sz ∧ (∀ (j : Nat) (u : Value), us[j]? = some u → hcell (hpOf w) ((a.add (i * sz)).add j) u) ∧ RepL (hpOf w) noB (en y) us ∧ Q y := by
          have : ∀ n, n ≤ len → ∃ xs : List α, xs.length = n ∧ ∀ (i : Nat) (y : α), xs[i]? = some y → ∃ us : List Value, us.length = sz ∧ (∀ (j : Nat) (u : Value), us[j]? = some u → hcell (hpOf w) ((a.add (i * sz)).add j) u) ∧ RepL (hpOf w) noB (en y) us ∧ Q y := by
            intro n
            induction n with
            | zero => exact fun _ => ⟨[], rfl, fun i y hy => by simp at hy⟩
            | succ n ih =>
              intro hn
              obtain ⟨xs, hx1, hx2⟩ := ih (by omega)
              obtain ⟨us, a', q1, q2, q3, q4⟩ := hall n (by omega)
              refine ⟨xs ++ [a'], by simp [hx1], fun i y hy => ?_⟩
              rw [List.getElem?_append] at hy
              split at hy
              · exact hx2 i y hy
              · rename_i hi
                have hin : i = n := by
                  have := (List.getElem?_eq_some_iff.1 hy).1
                  simp at this; omega
                subst hin
                rw [hx1, Nat.sub_self] at hy
                simp at hy; subst hy
                exact ⟨us, q1, q2, q3, q4⟩
          exact this len (Nat.le_refl _)
        obtain ⟨xs, hx1, hx2⟩ := hex
        refine ⟨xs, _, rfl, ?_, fun y hy => ?_, by omega⟩
        · simp only [Rep]
          refine ⟨some a, cap, by rw [hx1], by omega, by omega, fun i y hy => ?_⟩
          obtain ⟨us, q1, q2, q3, _⟩ := hx2 i y hy
          refine ⟨a, us, rfl, q1, q3, fun j u hu => ?_⟩
          have := q2 j u hu
          have hadd : (a.add (i * sz)).add j = a.add (i * sz + j) := by
            unfold Addr.add
            by_cases k1 : i * sz = 0
            · rw [k1]; simp
            · by_cases k2 : j = 0
              · subst k2; simp [k1]
              · simp [k1, k2, Nat.add_assoc]
          rwa [hadd] at this
        · obtain ⟨i, hi, rfl⟩ := List.mem_iff_getElem.1 hy
          obtain ⟨_, _, _, _, hq⟩ := hx2 i _ (List.getElem?_eq_getElem hi)
          exact hq
      · cases h
end
end Go.AL
namespace Go.AL
/-- what a number in memory is -/
def ZB (z : Z) : Prop := WOk z.w ∧ z.w.length ≤ maxLen
theorem list2 {α : Type} {l : List α} (h : l.length = 2) : ∃ a b, l = [a, b] := by
  match l, h with
  | [a, b], _ => exact ⟨a, b, rfl⟩
theorem list3 {α : Type} {l : List α} (h : l.length = 3) : ∃ a b c, l = [a, b, c] := by
  match l, h with
  | [a, b, c], _ => exact ⟨a, b, c, rfl⟩
end Go.AL
namespace Go.Proofs.Ytfkjhjgihbnegaa
open Go.AL Go.ChangeShapes Go.WideShapes Go.ChangeAt Go.RowKit

section
variable {H : Type} {enc : TypeId × Value → H} {w : World} {base : Nat} {spare : Nat → Bool} {held : Bool}
theorem wfU32 {n : Int} (h : (Lit.int .u32 n).wf = true) : 0 ≤ n ∧ n < 4294967296 := by
  simp [Lit.wf] at h
  have h1 : IntKind.u32.min = 0 := rfl
  have h2 : IntKind.u32.max = 4294967295 := rfl
  omega
theorem wfU8 {n : Int} (h : (Lit.int .u8 n).wf = true) : 0 ≤ n ∧ n ≤ 255 := by
  simp [Lit.wf] at h
  have h1 : IntKind.u8.min = 0 := rfl
  have h2 : IntKind.u8.max = 255 := rfl
  omega
theorem wfI64 {n : Int} (h : (Lit.int .i64 n).wf = true) : -9223372036854775808 ≤ n ∧ n ≤ 9223372036854775807 := by
  simp [Lit.wf] at h
  have h1 : IntKind.i64.min = -9223372036854775808 := rfl
  have h2 : IntKind.i64.max = 9223372036854775807 := rfl
  omega
theorem trodW {fuel : Nat} {cs : List Value} {x : DataW H × List MemPlace} (h : DataW.trod enc Try.prog w base spare held fuel 22 cs = some x) : ∃ (xs : List Int) (u : Value), cs = [u] ∧ Rep (hpOf w) noB (aW xs) u ∧ WOk xs ∧ xs.length ≤ maxLen := by
  refine trodSlice 1 eW (fun n => 0 ≤ n ∧ n < 4294967296) Try.underlying22 (by kernel_rfl) (fun fuel us y _ hy => ?_) h
  obtain ⟨n, rfl, hn⟩ := trodInt Try.underlying25 hy
  exact ⟨n, ⟨_, _, rfl, by simp only [Rep], rfl⟩, wfU32 hn⟩
theorem trodZ {fuel : Nat} {cs : List Value} {x : DataW H × List MemPlace} (h : DataW.trod enc Try.prog w base spare held fuel 24 cs = some x) : ∃ z : Z, RepL (hpOf w) noB (eZ z) cs ∧ ZB z := by
  obtain ⟨y0, y1, n, _, hl, h0, h1⟩ := trod_struct2 Try.underlying24 h
  have hc : Try.prog.cellsOf 24 = 2 := by kernel_rfl
  have hb : Try.prog.cellsOf 4 = 1 := by kernel_rfl
  have hs : Try.prog.cellsOf 22 = 1 := by kernel_rfl
  rw [hc] at hl
  obtain ⟨c0, c1, rfl⟩ := list2 hl
  simp only [hb, hs, List.drop_zero, List.take_succ_cons, List.take_zero, List.drop_succ_cons] at h0 h1
  obtain ⟨b, e0⟩ := trodBool Try.underlying4 h0
  obtain ⟨xs, u, e1, hr, hw, hm⟩ := trodW h1
  injection e0 with e0; injection e1 with e1; subst e0 e1
  exact ⟨⟨b, xs⟩, ⟨_, _, rfl, by simp only [Rep], ⟨_, _, rfl, hr, rfl⟩⟩, hw, hm⟩
end
theorem below_of {W W' : World} {h h' : Hp} (e : Evo never W h W' h') : Below W.heap.size W W' := ⟨e.os, e.tape, e.output, e.size, fun k hk => e.block k hk (fun x => x)⟩
theorem own : ownKnob Try.prog.godebug = none := by kernel_rfl
theorem lb : laidOutB Try.prog = true := by kernel_rfl
end Go.Proofs.Ytfkjhjgihbnegaa
namespace Go.AL
/-- a polynomial times a term -/
def addE (a b : List Int) : List Int := List.zipWith (· + ·) a b
def timesT (l : List TZ) (t : TZ) : List TZ := l.map fun s => ⟨zOf (zval s.c * zval t.c), addE s.e t.e⟩
theorem addE_snoc {a b : List Int} {k : Nat} {x y : Int} (ha : a[k]? = some x) (hb : b[k]? = some y) : addE (a.take (k + 1)) (b.take (k + 1)) = addE (a.take k) (b.take k) ++ [x + y] := by
  rw [take_snoc ha, take_snoc hb]
  unfold addE
  rw [List.zipWith_append (by rw [List.length_take, List.length_take]; have := (List.getElem?_eq_some_iff.1 ha).1; have := (List.getElem?_eq_some_iff.1 hb).1; omega)]
  rfl
theorem addE_len (a b : List Int) : (addE a b).length = min a.length b.length := by simp [addE]
theorem timesT_snoc {l : List TZ} {i : Nat} {s t : TZ} (h : l[i]? = some s) : timesT (l.take (i + 1)) t = timesT (l.take i) t ++ [⟨zOf (zval s.c * zval t.c), addE s.e t.e⟩] := by
  rw [take_snoc h]; simp [timesT]
end Go.AL
namespace Go.Proofs.Ytfkjhjgihbnegaa
open Go.AL

set_option maxHeartbeats 1000000 in
theorem rTimes_ok (n : Nat) (hn : n ≤ 1000) (l : List TZ) (t : TZ) (hl : l.length ≤ 3000) (hlt : TermsOk n 10000 l) (ht : TermsOk n 10000 [t]) (h0 : t.c.w.length ≠ 0) (hne : l.length ≠ 0) : PureFn Try.prog 25 [aP ⟨n, l⟩, aT t] (aP ⟨n, timesT l t⟩) := by
  refine PureFn.of_body Try.func25 rfl Try.ntmps25 rfl rfl ?_
  have htc := ht.c t (by simp)
  have hte := ht.e t (by simp)
  have htm := ht.m t (by simp)
  have hzero := rZero_ok t.c
  rw [decide_eq_false h0] at hzero
  repeat' (first |refine Fl.v rfl rfl rfl ?_ |refine Fl.nilF ?_ |refine AWP.seq ?_ |refine AWP.region ?_ |refine Fl.b rfl rfl rfl rfl ?_ |refine AWP.block ?_ |fail)
  refine AWP.loop (G := Nat) (fun i => i ≤ l.length) (fun i => match i with
    | 0 => St.of [] [(2, .ptr 2 0), (3, .ptr 3 0), (4, .ptr 4 0), (5, .ptr 5 0), (6, aN 0)] [(2, .cells [aN n, .sl 3 eT l] 30), (3, .cells (eT t) 64), (4, .cells [aN 0, .v (.slice none 0 0)] 30), (5, .cells [aN n, .v (.slice none 0 0)] 30)]
    | i + 1 => St.of [] [(2, .ptr 2 0), (3, .ptr 3 0), (4, .ptr 4 0), (5, .ptr 5 0), (6, aN ((i + 1 : Nat) : Int))] [(2, .cells [aN n, .sl 3 eT l] 30), (3, .cells (eT t) 64), (4, .cells [aN 0, .v (.slice none 0 0)] 30), (5, .cells [aN n, .row 700] 30), (700, .row 3 eT (timesT (l.take (i + 1)) t) 64)]) (fun i => l.length - i) 0 (by omega) ?_ ?_
  · refine Ent.of [] ?_ ?_ rfl rfl
    repeat' (first | exact True.intro |refine ⟨⟨AV.Le.refl _, rfl⟩, ?_⟩ |refine ⟨⟨⟨_, rfl, BLe.cells (LeL.refl _)⟩, rfl⟩, ?_⟩ |refine ⟨⟨⟨_, rfl, BLe.row rfl⟩, rfl⟩, ?_⟩ |refine ⟨⟨⟨_, rfl, BLe.row ?_⟩, rfl⟩, ?_⟩ |refine ⟨⟨⟨_, rfl, BLe.cells ?_⟩, rfl⟩, ?_⟩ |refine ⟨⟨AV.Le.int ?_, rfl⟩, ?_⟩ |refine ⟨⟨AV.Le.bool ?_, rfl⟩, ?_⟩ |refine ⟨⟨AV.Le.sl ?_, rfl⟩, ?_⟩ |refine ⟨⟨AV.Le.of_eq ?_, rfl⟩, ?_⟩ | fail)
  · intro i hi
    cases i with
    | zero =>
      dsimp only
      repeat' (first |refine Fl.v rfl rfl rfl ?_ |refine AWP.seq ?_ |refine AWP.region ?_ |(refine Fl.splitD rfl rfl ?_ ?_ <;> intro _ <;> try (exfalso; omega)) |fail)
      · rename_i hlt'
        obtain ⟨s, hs⟩ : ∃ s, l[0]? = some s := ⟨_, List.getElem?_eq_getElem (by omega)⟩
        have hsm := List.mem_of_getElem? hs
        have hse := hlt.e s hsm
        have hsl := hlt.m s hsm
        have hsc := hlt.c s hsm
        have htl : (timesT (l.take 0) t).length = 0 := by simp [timesT]
        refine Fl.call rfl hzero rfl rfl rfl (LeL.refl _) ?_
        repeat' (first |refine Fl.v rfl rfl rfl ?_ |refine Fl.nilF ?_ |refine Fl.b rfl rfl rfl rfl ?_ |refine AWP.condT rfl ?_ |refine AWP.condF rfl ?_ |refine AWP.skip ?_ |fail)
        refine AWP.seq ?_
        refine AWP.block ?_
        refine AWP.seqS ?_
        repeat' (first |refine Fl.v rfl rfl rfl ?_ |refine Fl.nilF ?_ |refine AWP.region ?_ |refine Fl.make rfl rfl rfl rfl rfl rfl rfl rfl rfl rfl eI 0 (by exact LeL.refl _) (by rfl) (by first | omega | (dsimp only; omega)) (by first | omega | (dsimp only; omega)) (by first | omega | (dsimp only; omega)) ?_ |fail)
        refine ⟨AWP.seqS ?_⟩
        repeat' (first |refine Fl.v rfl rfl rfl ?_ |refine Fl.nilF ?_ |refine AWP.seq ?_ |refine AWP.region ?_ |refine AWP.block ?_ |fail)
        refine AWP.loop (G := Nat) (fun k => k ≤ n) (fun k => St.of [] [(2, .ptr 2 0), (3, .ptr 3 0), (4, .ptr 4 0), (5, .ptr 5 0), (6, aN 0), (7, .row 27), (8, aN k)] [(2, .cells [aN n, .sl 3 eT l] 30), (3, .cells (eT t) 64), (4, .cells [aN 0, .v (.slice none 0 0)] 30), (5, .cells [aN n, .v (.slice none 0 0)] 30), (27, .row 1 eI (addE (s.e.take k) (t.e.take k) ++ List.replicate (n - k) 0) 3)]) (fun k => n - k) 0 (by omega) ?_ ?_
        · refine Ent.of [] ?_ ?_ rfl rfl
          repeat' (first | exact True.intro |refine ⟨⟨AV.Le.refl _, rfl⟩, ?_⟩ |refine ⟨⟨⟨_, rfl, BLe.cells (LeL.refl _)⟩, rfl⟩, ?_⟩ |refine ⟨⟨⟨_, rfl, BLe.row rfl⟩, rfl⟩, ?_⟩ |refine ⟨⟨⟨_, rfl, BLe.row ?_⟩, rfl⟩, ?_⟩ |refine ⟨⟨⟨_, rfl, BLe.cells ?_⟩, rfl⟩, ?_⟩ |refine ⟨⟨AV.Le.int ?_, rfl⟩, ?_⟩ |refine ⟨⟨AV.Le.bool ?_, rfl⟩, ?_⟩ |refine ⟨⟨AV.Le.sl ?_, rfl⟩, ?_⟩ |refine ⟨⟨AV.Le.of_eq ?_, rfl⟩, ?_⟩ | fail)
        · intro k hk
          have hadl : (addE (s.e.take k) (t.e.take k)).length = k := by rw [addE_len, List.length_take, List.length_take]; omega
          have hrl : (addE (s.e.take k) (t.e.take k) ++ List.replicate (n - k) 0).length = n := by rw [List.length_append, hadl, List.length_replicate]; omega
          by_cases hkn : k < n
          · obtain ⟨x, hx⟩ : ∃ x, s.e[k]? = some x := ⟨_, List.getElem?_eq_getElem (by omega)⟩
            obtain ⟨y, hy⟩ : ∃ y, t.e[k]? = some y := ⟨_, List.getElem?_eq_getElem (by omega)⟩
            have hxb := hse.1.get hx
            have hyb := hte.1.get hy
            repeat' (first |refine Fl.v rfl rfl rfl ?_ |refine Fl.nilF ?_ |refine Fl.nil (fun _ => by kernel_rfl) ?_ |refine AWP.seq ?_ |refine AWP.region ?_ |refine Fl.w rfl rfl rfl (by first | exact True.intro | omega) ?_ |(refine AWP.condD rfl ?_ ?_ <;> intro _ <;> try (exfalso; omega)) |refine AWP.block ?_ |refine AWP.skip ?_ |refine Fl.elK rfl rfl rfl rfl rfl rfl rfl rfl (by assumption) (by omega) ?_ |refine Fl.rel rfl rfl rfl rfl rfl rfl rfl rfl (by omega) (by first | omega | (simp; omega)) ?_ |refine Fl.rst rfl rfl rfl rfl rfl rfl rfl rfl rfl rfl rfl (LeL.refl _) rfl (by first | omega | (simp; omega)) ?_ |fail)
            refine LoopEnd.of (k + 1) (by omega) (by omega) ?_
            refine Ent.of [] ?_ ?_ rfl rfl
            repeat' (first | exact True.intro |refine ⟨⟨AV.Le.refl _, rfl⟩, ?_⟩ |refine ⟨⟨⟨_, rfl, BLe.cells (LeL.refl _)⟩, rfl⟩, ?_⟩ |refine ⟨⟨⟨_, rfl, BLe.row rfl⟩, rfl⟩, ?_⟩ |refine ⟨⟨⟨_, rfl, BLe.row ?_⟩, rfl⟩, ?_⟩ |refine ⟨⟨⟨_, rfl, BLe.cells ?_⟩, rfl⟩, ?_⟩ |refine ⟨⟨AV.Le.int ?_, rfl⟩, ?_⟩ |refine ⟨⟨AV.Le.bool ?_, rfl⟩, ?_⟩ |refine ⟨⟨AV.Le.sl ?_, rfl⟩, ?_⟩ |refine ⟨⟨AV.Le.of_eq ?_, rfl⟩, ?_⟩ | fail)
            rw [addE_snoc hx hy]
            exact set_rep (by rw [hadl]; omega) (by omega) rfl
          · repeat' (first |refine Fl.v rfl rfl rfl ?_ |refine Fl.nilF ?_ |refine AWP.seq ?_ |refine AWP.region ?_ |(refine AWP.condD rfl ?_ ?_ <;> intro _ <;> try (exfalso; omega)) |refine AWP.exit ?_ |fail)
            refine ⟨?_⟩
            refine AWP.ent (Ent.freeze 27 rfl) ?_
            have hkn' : k = n := by omega
            repeat' (first |refine Fl.v rfl rfl rfl ?_ |refine AWP.region ?_ |refine Fl.elK rfl rfl rfl rfl rfl rfl rfl rfl (by assumption) (by omega) ?_ |fail)
            have hfin : addE (s.e.take k) (t.e.take k) ++ List.replicate (n - k) 0 = addE s.e t.e := by
              rw [hkn', Nat.sub_self, List.replicate_zero, List.append_nil, List.take_of_length_le (by omega), List.take_of_length_le (by omega)]
            refine Fl.call rfl (rMul_ok (zval s.c) (zval t.c) (show lenI _ ≤ _ by omega) (show lenI _ ≤ _ by omega)) rfl rfl rfl (LeL.cons (AV.Le.agg (leZ (σ := []) hsc)) (LeL.cons (AV.Le.agg (leZ (σ := []) htc)) LeL.nil)) ?_
            repeat' (first |refine Fl.v rfl rfl rfl ?_ |refine Fl.b rfl rfl rfl rfl ?_ |fail)
            refine Fl.lit rfl rfl rfl rfl rfl eT [⟨zOf (zval s.c * zval t.c), addE (s.e.take k) (t.e.take k) ++ List.replicate (n - k) 0⟩] rfl rfl rfl rfl (by intro _ _; rfl) rfl ?_
            skip
            refine Fl.ap0 rfl rfl rfl rfl rfl rfl rfl rfl eT rfl rfl (fun _ => rfl) (fun _ => rfl) (AV.Le.refl _) (by dsimp only [List.length_nil, List.length_cons]; omega) (by simp) ?_
            repeat' (first |refine Fl.v rfl rfl rfl ?_ |refine Fl.nilF ?_ |refine Fl.nil (fun _ => by kernel_rfl) ?_ |refine AWP.region ?_ |refine Fl.w rfl rfl rfl (by first | exact True.intro | omega) ?_ |refine Fl.b rfl rfl rfl rfl ?_ |fail)
            refine LoopEnd.of (0 + 1) (by omega) (by omega) ?_
            refine Ent.of [(700, 66)] ?_ ?_ rfl rfl
            repeat' (first | exact True.intro |refine ⟨⟨AV.Le.refl _, rfl⟩, ?_⟩ |refine ⟨⟨⟨_, rfl, BLe.cells (LeL.refl _)⟩, rfl⟩, ?_⟩ |refine ⟨⟨⟨_, rfl, BLe.row rfl⟩, rfl⟩, ?_⟩ |refine ⟨⟨⟨_, rfl, BLe.row ?_⟩, rfl⟩, ?_⟩ |refine ⟨⟨⟨_, rfl, BLe.cells ?_⟩, rfl⟩, ?_⟩ |refine ⟨⟨AV.Le.int ?_, rfl⟩, ?_⟩ |refine ⟨⟨AV.Le.bool ?_, rfl⟩, ?_⟩ |refine ⟨⟨AV.Le.sl ?_, rfl⟩, ?_⟩ |refine ⟨⟨AV.Le.of_eq ?_, rfl⟩, ?_⟩ | fail)
            rw [timesT_snoc hs, hfin]
            try rfl
    | succ i =>
      dsimp only
      repeat' (first |refine Fl.v rfl rfl rfl ?_ |refine Fl.nilF ?_ |refine AWP.seq ?_ |refine AWP.region ?_ |refine Fl.b rfl rfl rfl rfl ?_ |refine Fl.skip rfl rfl ?_ |refine AWP.condF rfl ?_ |refine AWP.exit ?_ |refine AWP.ret ?_ |(refine Fl.splitD rfl rfl ?_ ?_ <;> intro _ <;> try (exfalso; omega)) |fail)
      · rename_i hlt'
        obtain ⟨s, hs⟩ : ∃ s, l[(i + 1)]? = some s := ⟨_, List.getElem?_eq_getElem (by omega)⟩
        have hsm := List.mem_of_getElem? hs
        have hse := hlt.e s hsm
        have hsl := hlt.m s hsm
        have hsc := hlt.c s hsm
        have htl : (timesT (l.take (i + 1)) t).length = (i + 1) := by simp [timesT]; omega
        refine Fl.call rfl hzero rfl rfl rfl (LeL.refl _) ?_
        repeat' (first |refine Fl.v rfl rfl rfl ?_ |refine Fl.nilF ?_ |refine Fl.b rfl rfl rfl rfl ?_ |refine AWP.condT rfl ?_ |refine AWP.condF rfl ?_ |refine AWP.skip ?_ |fail)
        refine AWP.seq ?_
        refine AWP.block ?_
        refine AWP.seqS ?_
        repeat' (first |refine Fl.v rfl rfl rfl ?_ |refine Fl.nilF ?_ |refine AWP.region ?_ |refine Fl.make rfl rfl rfl rfl rfl rfl rfl rfl rfl rfl eI 0 (by exact LeL.refl _) (by rfl) (by first | omega | (dsimp only; omega)) (by first | omega | (dsimp only; omega)) (by first | omega | (dsimp only; omega)) ?_ |fail)
        refine ⟨AWP.seqS ?_⟩
        repeat' (first |refine Fl.v rfl rfl rfl ?_ |refine Fl.nilF ?_ |refine AWP.seq ?_ |refine AWP.region ?_ |refine AWP.block ?_ |fail)
        refine AWP.loop (G := Nat) (fun k => k ≤ n) (fun k => St.of [] [(2, .ptr 2 0), (3, .ptr 3 0), (4, .ptr 4 0), (5, .ptr 5 0), (6, aN ((i + 1 : Nat) : Int)), (7, .row 27), (8, aN k)] [(2, .cells [aN n, .sl 3 eT l] 30), (3, .cells (eT t) 64), (4, .cells [aN 0, .v (.slice none 0 0)] 30), (5, .cells [aN n, .row 700] 30), (700, .row 3 eT (timesT (l.take (i + 1)) t) 64), (27, .row 1 eI (addE (s.e.take k) (t.e.take k) ++ List.replicate (n - k) 0) 3)]) (fun k => n - k) 0 (by omega) ?_ ?_
        · refine Ent.of [] ?_ ?_ rfl rfl
          repeat' (first | exact True.intro |refine ⟨⟨AV.Le.refl _, rfl⟩, ?_⟩ |refine ⟨⟨⟨_, rfl, BLe.cells (LeL.refl _)⟩, rfl⟩, ?_⟩ |refine ⟨⟨⟨_, rfl, BLe.row rfl⟩, rfl⟩, ?_⟩ |refine ⟨⟨⟨_, rfl, BLe.row ?_⟩, rfl⟩, ?_⟩ |refine ⟨⟨⟨_, rfl, BLe.cells ?_⟩, rfl⟩, ?_⟩ |refine ⟨⟨AV.Le.int ?_, rfl⟩, ?_⟩ |refine ⟨⟨AV.Le.bool ?_, rfl⟩, ?_⟩ |refine ⟨⟨AV.Le.sl ?_, rfl⟩, ?_⟩ |refine ⟨⟨AV.Le.of_eq ?_, rfl⟩, ?_⟩ | fail)
        · intro k hk
          have hadl : (addE (s.e.take k) (t.e.take k)).length = k := by rw [addE_len, List.length_take, List.length_take]; omega
          have hrl : (addE (s.e.take k) (t.e.take k) ++ List.replicate (n - k) 0).length = n := by rw [List.length_append, hadl, List.length_replicate]; omega
          by_cases hkn : k < n
          · obtain ⟨x, hx⟩ : ∃ x, s.e[k]? = some x := ⟨_, List.getElem?_eq_getElem (by omega)⟩
            obtain ⟨y, hy⟩ : ∃ y, t.e[k]? = some y := ⟨_, List.getElem?_eq_getElem (by omega)⟩
            have hxb := hse.1.get hx
            have hyb := hte.1.get hy
            repeat' (first |refine Fl.v rfl rfl rfl ?_ |refine Fl.nilF ?_ |refine Fl.nil (fun _ => by kernel_rfl) ?_ |refine AWP.seq ?_ |refine AWP.region ?_ |refine Fl.w rfl rfl rfl (by first | exact True.intro | omega) ?_ |(refine AWP.condD rfl ?_ ?_ <;> intro _ <;> try (exfalso; omega)) |refine AWP.block ?_ |refine AWP.skip ?_ |refine Fl.elK rfl rfl rfl rfl rfl rfl rfl rfl (by assumption) (by omega) ?_ |refine Fl.rel rfl rfl rfl rfl rfl rfl rfl rfl (by omega) (by first | omega | (simp; omega)) ?_ |refine Fl.rst rfl rfl rfl rfl rfl rfl rfl rfl rfl rfl rfl (LeL.refl _) rfl (by first | omega | (simp; omega)) ?_ |fail)
            refine LoopEnd.of (k + 1) (by omega) (by omega) ?_
            refine Ent.of [] ?_ ?_ rfl rfl
            repeat' (first | exact True.intro |refine ⟨⟨AV.Le.refl _, rfl⟩, ?_⟩ |refine ⟨⟨⟨_, rfl, BLe.cells (LeL.refl _)⟩, rfl⟩, ?_⟩ |refine ⟨⟨⟨_, rfl, BLe.row rfl⟩, rfl⟩, ?_⟩ |refine ⟨⟨⟨_, rfl, BLe.row ?_⟩, rfl⟩, ?_⟩ |refine ⟨⟨⟨_, rfl, BLe.cells ?_⟩, rfl⟩, ?_⟩ |refine ⟨⟨AV.Le.int ?_, rfl⟩, ?_⟩ |refine ⟨⟨AV.Le.bool ?_, rfl⟩, ?_⟩ |refine ⟨⟨AV.Le.sl ?_, rfl⟩, ?_⟩ |refine ⟨⟨AV.Le.of_eq ?_, rfl⟩, ?_⟩ | fail)
            rw [addE_snoc hx hy]
            exact set_rep (by rw [hadl]; omega) (by omega) rfl
          · repeat' (first |refine Fl.v rfl rfl rfl ?_ |refine Fl.nilF ?_ |refine AWP.seq ?_ |refine AWP.region ?_ |(refine AWP.condD rfl ?_ ?_ <;> intro _ <;> try (exfalso; omega)) |refine AWP.exit ?_ |fail)
            refine ⟨?_⟩
            refine AWP.ent (Ent.freeze 27 rfl) ?_
            have hkn' : k = n := by omega
            repeat' (first |refine Fl.v rfl rfl rfl ?_ |refine AWP.region ?_ |refine Fl.elK rfl rfl rfl rfl rfl rfl rfl rfl (by assumption) (by omega) ?_ |fail)
            have hfin : addE (s.e.take k) (t.e.take k) ++ List.replicate (n - k) 0 = addE s.e t.e := by
              rw [hkn', Nat.sub_self, List.replicate_zero, List.append_nil, List.take_of_length_le (by omega), List.take_of_length_le (by omega)]
            refine Fl.call rfl (rMul_ok (zval s.c) (zval t.c) (show lenI _ ≤ _ by omega) (show lenI _ ≤ _ by omega)) rfl rfl rfl (LeL.cons (AV.Le.agg (leZ (σ := []) hsc)) (LeL.cons (AV.Le.agg (leZ (σ := []) htc)) LeL.nil)) ?_
            repeat' (first |refine Fl.v rfl rfl rfl ?_ |refine Fl.b rfl rfl rfl rfl ?_ |fail)
            refine Fl.lit rfl rfl rfl rfl rfl eT [⟨zOf (zval s.c * zval t.c), addE (s.e.take k) (t.e.take k) ++ List.replicate (n - k) 0⟩] rfl rfl rfl rfl (by intro _ _; rfl) rfl ?_
            skip
            refine Fl.ap rfl rfl rfl rfl rfl rfl rfl rfl rfl rfl rfl rfl rfl (fun _ => rfl) (fun _ => rfl) (AV.Le.refl _) (by simp only [htl, List.length_nil, List.length_cons]; omega) (by simp only [htl, List.length_cons, List.length_nil]; omega) ?_
            repeat' (first |refine Fl.v rfl rfl rfl ?_ |refine Fl.nilF ?_ |refine Fl.nil (fun _ => by kernel_rfl) ?_ |refine AWP.region ?_ |refine Fl.w rfl rfl rfl (by first | exact True.intro | omega) ?_ |refine Fl.b rfl rfl rfl rfl ?_ |fail)
            refine LoopEnd.of (i + 1 + 1) (by omega) (by omega) ?_
            refine Ent.of [(700, 66)] ?_ ?_ rfl rfl
            repeat' (first | exact True.intro |refine ⟨⟨AV.Le.refl _, rfl⟩, ?_⟩ |refine ⟨⟨⟨_, rfl, BLe.cells (LeL.refl _)⟩, rfl⟩, ?_⟩ |refine ⟨⟨⟨_, rfl, BLe.row rfl⟩, rfl⟩, ?_⟩ |refine ⟨⟨⟨_, rfl, BLe.row ?_⟩, rfl⟩, ?_⟩ |refine ⟨⟨⟨_, rfl, BLe.cells ?_⟩, rfl⟩, ?_⟩ |refine ⟨⟨AV.Le.int ?_, rfl⟩, ?_⟩ |refine ⟨⟨AV.Le.bool ?_, rfl⟩, ?_⟩ |refine ⟨⟨AV.Le.sl ?_, rfl⟩, ?_⟩ |refine ⟨⟨AV.Le.of_eq ?_, rfl⟩, ?_⟩ | fail)
            rw [timesT_snoc hs, hfin]
            try rfl
      · rename_i hlt'
        have hti : l.take (i + 1) = l := List.take_of_length_le (by omega)
        refine RetOk.ent (Ent.freeze 700 rfl) ?_
        refine RetOk.of rfl ?_
        rw [hti]
        exact AV.Le.refl _
end Go.Proofs.Ytfkjhjgihbnegaa
namespace Go.Proofs.Ytfkjhjgihbnegaa
open Go.AL

/-- two polynomials of one term each, multiplied -/
theorem rMulOne_ok (n : Nat) (hn : n ≤ 1000) (s t : TZ) (hs : TermsOk n 10000 [s]) (ht : TermsOk n 10000 [t]) (h0 : t.c.w.length ≠ 0) (hnz : zval s.c * zval t.c ≠ 0) (he : EOk (addE s.e t.e)) : PureFn Try.prog 11 [aP ⟨n, [s]⟩, aP ⟨n, [t]⟩] (aP ⟨n, [⟨zOf (zval s.c * zval t.c), addE s.e t.e⟩]⟩) := by
  refine PureFn.of_body Try.func11 rfl Try.ntmps11 rfl rfl ?_
  have hti := rTimes_ok n hn [s] t (by simp) hs ht h0 (by simp)
  have e1 : timesT [s] t = [⟨zOf (zval s.c * zval t.c), addE s.e t.e⟩] := rfl
  rw [e1] at hti
  have hso := rSorted_short n 20000 hn (by omega) [⟨zOf (zval s.c * zval t.c), addE s.e t.e⟩] (TermsOk.one (by have := lenI_mul (zval s.c) (zval t.c); have := hs.m s (by simp); have := ht.m t (by simp); omega) he (by rw [addE_len, (hs.e s (by simp)).2, (ht.e t (by simp)).2]; omega)) (by simp)
  rw [mergeT_one hnz] at hso
  have g0 : [t][(0 : Int).toNat]? = some t := rfl
  have gl : [t].length = 1 := rfl
  repeat' (first |refine Fl.v rfl rfl rfl ?_ |refine Fl.nilF ?_ |refine AWP.seq ?_ |refine AWP.region ?_ |refine Fl.b rfl rfl rfl rfl ?_ |refine AWP.block ?_ |fail)
  refine AWP.loop (G := Nat) (fun i => i ≤ 1) (fun i => match i with
    | 0 => St.of [] [(2, .ptr 2 0), (3, .ptr 3 0), (4, .ptr 4 0), (5, .v (.slice none 0 0)), (6, aN 0)] [(2, .cells [aN n, .sl 3 eT [s]] 30), (3, .cells [aN n, .sl 3 eT [t]] 30), (4, .cells [aN 0, .v (.slice none 0 0)] 30)]
    | _ + 1 => St.of [] [(2, .ptr 2 0), (3, .ptr 3 0), (4, .ptr 4 0), (5, .row 700), (6, aN 1)] [(2, .cells [aN n, .sl 3 eT [s]] 30), (3, .cells [aN n, .sl 3 eT [t]] 30), (4, .cells [aN 0, .v (.slice none 0 0)] 30), (700, .row 3 eT [⟨zOf (zval s.c * zval t.c), addE s.e t.e⟩] 64)]) (fun i => 1 - i) 0 (by omega) ?_ ?_
  · refine Ent.of [] ?_ ?_ rfl rfl
    repeat' (first | exact True.intro |refine ⟨⟨AV.Le.refl _, rfl⟩, ?_⟩ |refine ⟨⟨⟨_, rfl, BLe.cells (LeL.refl _)⟩, rfl⟩, ?_⟩ |refine ⟨⟨⟨_, rfl, BLe.row rfl⟩, rfl⟩, ?_⟩ |refine ⟨⟨⟨_, rfl, BLe.row ?_⟩, rfl⟩, ?_⟩ |refine ⟨⟨⟨_, rfl, BLe.cells ?_⟩, rfl⟩, ?_⟩ |refine ⟨⟨AV.Le.int ?_, rfl⟩, ?_⟩ |refine ⟨⟨AV.Le.bool ?_, rfl⟩, ?_⟩ |refine ⟨⟨AV.Le.sl ?_, rfl⟩, ?_⟩ |refine ⟨⟨AV.Le.of_eq ?_, rfl⟩, ?_⟩ | fail)
  · intro i hi
    cases i with
    | zero =>
      dsimp only
      repeat' (first |refine Fl.v rfl rfl rfl ?_ |refine Fl.nilF ?_ |refine AWP.seq ?_ |refine AWP.region ?_ |refine AWP.condT rfl ?_ |refine AWP.block ?_ |refine AWP.skip ?_ |refine Fl.elK rfl rfl rfl rfl rfl rfl rfl rfl (by assumption) (by omega) ?_ |fail)
      refine Fl.call rfl (hti) rfl rfl rfl (LeL.refl _) ?_
      repeat' (first |refine Fl.v rfl rfl rfl ?_ |fail)
      refine Fl.ap0 rfl rfl rfl rfl rfl rfl rfl rfl eT rfl rfl (fun _ => rfl) (fun _ => rfl) (AV.Le.refl _) (by dsimp only [List.length_nil, List.length_cons]; omega) (by simp) ?_
      repeat' (first |refine Fl.v rfl rfl rfl ?_ |refine Fl.nilF ?_ |refine Fl.nil (fun _ => by kernel_rfl) ?_ |refine AWP.region ?_ |refine Fl.w rfl rfl rfl (by first | exact True.intro | omega) ?_ |fail)
      refine LoopEnd.of (0 + 1) (by omega) (by omega) ?_
      refine Ent.of [(700, 23)] ?_ ?_ rfl rfl
      repeat' (first | exact True.intro |refine ⟨⟨AV.Le.refl _, rfl⟩, ?_⟩ |refine ⟨⟨⟨_, rfl, BLe.cells (LeL.refl _)⟩, rfl⟩, ?_⟩ |refine ⟨⟨⟨_, rfl, BLe.row rfl⟩, rfl⟩, ?_⟩ |refine ⟨⟨⟨_, rfl, BLe.row ?_⟩, rfl⟩, ?_⟩ |refine ⟨⟨⟨_, rfl, BLe.cells ?_⟩, rfl⟩, ?_⟩ |refine ⟨⟨AV.Le.int ?_, rfl⟩, ?_⟩ |refine ⟨⟨AV.Le.bool ?_, rfl⟩, ?_⟩ |refine ⟨⟨AV.Le.sl ?_, rfl⟩, ?_⟩ |refine ⟨⟨AV.Le.of_eq ?_, rfl⟩, ?_⟩ | fail)
    | succ i =>
      dsimp only
      repeat' (first |refine Fl.v rfl rfl rfl ?_ |refine Fl.nilF ?_ |refine AWP.seq ?_ |refine AWP.region ?_ |refine AWP.condF rfl ?_ |refine AWP.exit ?_ |fail)
      refine Fl.callF rfl 700 rfl hso rfl rfl rfl (LeL.refl _) ?_
      repeat' (first |refine Fl.nil (fun _ => by kernel_rfl) ?_ |refine Fl.b rfl rfl rfl rfl ?_ |refine AWP.ret ?_ |fail)
      exact RetOk.of rfl (AV.Le.refl _)
theorem rAddP_ok (n M : Nat) (hn : n ≤ 1000) (hM : M ≤ 30000) (a b : List TZ) (ha : TermsOk n M a) (hb : TermsOk n M b) (hal : a.length ≤ 100000) (hbl : b.length ≤ 100000) : PureFn Try.prog 16 [aP ⟨n, a⟩, aP ⟨n, b⟩] (aP ⟨n, mergeT a b⟩) := by
  refine PureFn.of_body Try.func16 rfl Try.ntmps16 rfl rfl ?_
  repeat' (first |refine Fl.v rfl rfl rfl ?_ |refine Fl.nilF ?_ |refine AWP.seq ?_ |refine AWP.region ?_ |refine Fl.b rfl rfl rfl rfl ?_ |fail)
  refine Fl.call rfl (merged_ok n M hn hM a b ha hb hal hbl) rfl rfl rfl (LeL.refl _) ?_
  repeat' (first |refine Fl.nil (fun _ => by kernel_rfl) ?_ |refine Fl.b rfl rfl rfl rfl ?_ |refine AWP.ret ?_ |fail)
  exact RetOk.of rfl (AV.Le.refl _)
end Go.Proofs.Ytfkjhjgihbnegaa
namespace Go.AL
theorem lenI_of_words {z : Z} (h : z = zOf (zval z)) : lenI (zval z) = z.w.length := by
  have : z.w = toW (zval z).natAbs := congrArg Z.w h
  rw [this]; rfl
end Go.AL
namespace Go.Proofs.Ytfkjhjgihbnegaa
open Go.AL

/-- the polynomials and systems of SystemBig -/
def pMul : PZ := ⟨3, [⟨zOf 1, [1, 1, 0]⟩]⟩
def pAdd : PZ := ⟨3, [⟨zOf 1, [0, 0, 1]⟩, ⟨zOf 200000, [0, 0, 0]⟩]⟩
def sProd : SZ := ⟨3, [⟨0, [0, 1, 2], [pMul]⟩]⟩
def lBig (k : Int) : LZ := ⟨k, [0, 1, 2], [pVar 3 0, pAdd, pVar 3 1]⟩
def sBig (k : Int) : SZ := ⟨3, [lBig k]⟩
theorem f200 : Fit 200000 := fit_small (by omega) (by omega)
theorem pAdd_ok : OkP pAdd := by
  refine ⟨by decide, by decide, by decide, fun t ht => ?_, fun i a b h1 h2 => ?_⟩
  · simp only [pAdd, List.mem_cons, List.not_mem_nil, or_false] at ht
    rcases ht with rfl | rfl
    · exact ⟨okZ_zOf fit_one, fun h => by have := (toW_len0 1).1 h; omega, rfl, by intro e he; simp at he; omega, by decide⟩
    · exact ⟨okZ_zOf f200, fun h => by have := (toW_len0 200000).1 h; omega, rfl, by intro e he; simp at he; omega, by decide⟩
  · match i, h1, h2 with
    | 0, h1, h2 =>
      simp [pAdd] at h1 h2
      subst h1 h2
      decide
    | i + 1, h1, h2 => simp [pAdd] at h2
theorem pAdd_w : WP pAdd := fun t ht => by
  simp only [pAdd, List.mem_cons, List.not_mem_nil, or_false] at ht
  rcases ht with rfl | rfl <;> exact toW_ok _
theorem pMul_ok : OkP pMul := OkP.one (n := 3) (by omega) fit_one (by omega) (by intro e he; simp at he; omega) rfl (by decide)
theorem pV_ok (i : Nat) (hi : i < 3) : OkP (pVar 3 i) := OkP.one (by omega) fit_one (by omega) ((EOk.zeros _).set _ (by omega) (by omega)) (by simp [unitE]) (by
  match i, hi with
  | 0, _ => decide
  | 1, _ => decide
  | 2, _ => decide)
theorem sProd_w : WS sProd := fun l hl p hp => by
  simp only [sProd, List.mem_singleton] at hl
  subst hl
  simp only [List.mem_singleton] at hp
  subst hp; exact WP.one
theorem sProd_ok : OkS sProd := by
  refine ⟨by decide, by decide, by decide, fun l hl => ?_⟩
  simp only [sProd, List.mem_singleton] at hl
  subst hl
  refine ⟨by decide, by decide, by decide, ⟨by decide, by decide, by decide, by decide, by decide, by decide, trivial⟩, fun p hp => ?_⟩
  simp only [List.mem_singleton] at hp
  subst hp
  exact ⟨rfl, pMul_ok⟩
theorem sBig_w (k : Int) : WS (sBig k) := fun l hl p hp => by
  simp only [sBig, List.mem_singleton] at hl
  subst hl
  simp only [lBig, List.mem_cons, List.not_mem_nil, or_false] at hp
  rcases hp with rfl | rfl | rfl
  · exact WP.one
  · exact pAdd_w
  · exact WP.one
theorem sBig_ok (k : Int) (hk : k = 1 ∨ k = 2) : OkS (sBig k) := by
  refine ⟨by simp [sBig], by simp [sBig], by simp [sBig], fun l hl => ?_⟩
  simp only [sBig, List.mem_singleton] at hl
  subst hl
  refine ⟨?_, ?_, by simp [lBig], ⟨by decide, by simp [sBig], by decide, by simp [sBig], by decide, by simp [sBig], trivial⟩, fun p hp => ?_⟩
  · rcases hk with rfl | rfl <;> decide
  · rcases hk with rfl | rfl <;> decide
  simp only [lBig, List.mem_cons, List.not_mem_nil, or_false] at hp
  rcases hp with rfl | rfl | rfl
  · exact ⟨rfl, pV_ok 0 (by omega)⟩
  · exact ⟨rfl, pAdd_ok⟩
  · exact ⟨rfl, pV_ok 1 (by omega)⟩
theorem at3 (x y q : Int) : atOf [x, y, q] [0, 1, 2] = [x, y, q] := rfl
theorem pMul_pv (x y q : Int) : pv [x, y, q] pMul = x * y := by
  unfold pMul; rw [pv_one]; simp [prodE, pow1]
theorem sProd_ev (x y q : Int) : EvL [x, y, q] ⟨0, [0, 1, 2], [pMul]⟩ ↔ Fit (x * y) := by
  unfold EvL
  simp only [List.mem_singleton, forall_eq, at3]
  unfold pMul
  rw [EvOk_one]
  simp [prodE, pow1]
theorem pAdd_tv (x y q : Int) : PS [x, y, q] pAdd.terms = plI q + 200000 ∧ OS [x, y, q] pAdd.terms = opI q := by
  have h1 : plI 200000 = 200000 := by decide
  have h2 : opI 200000 = 0 := by decide
  simp [PS, OS, pAdd, sumL, tv, zval_zOf, prodE, pow1, h1, h2]
theorem sBig_ev (x y q k : Int) (hx : Fit x) (hy : Fit y) (h0 : 0 ≤ q) (h1 : q < 4294967296) : EvL [x, y, q] (lBig k) := by
  intro p hp
  simp only [lBig, List.mem_cons, List.not_mem_nil, or_false] at hp
  have e : atOf [x, y, q] (lBig k).vars = [x, y, q] := rfl
  rw [e]
  rcases hp with rfl | rfl | rfl
  · exact EvOk_one.2 (by simpa [prodE, unitE, List.replicate, pow1] using hx)
  · obtain ⟨e1, e2⟩ := pAdd_tv x y q
    refine ⟨?_, ?_⟩
    · rw [e1, plI_pos (by omega)]; exact fit_small (by omega) (by omega)
    · rw [e2, opI_pos (by omega)]; exact Fit.zero
  · exact EvOk_one.2 (by simpa [prodE, unitE, List.replicate, pow1] using hy)
theorem sBig_vals (x y q k : Int) (h0 : 0 ≤ q) : lvals [x, y, q] (lBig k) = [x, q + 200000, y] := by
  have e : atOf [x, y, q] (lBig k).vars = [x, y, q] := rfl
  obtain ⟨e1, e2⟩ := pAdd_tv x y q
  have e3 : pv [x, y, q] pAdd = q + 200000 := by unfold pv; rw [e1, e2, plI_pos (by omega), opI_pos (by omega)]; omega
  have e4 : pv [x, y, q] (pVar 3 0) = x := by unfold pVar; rw [pv_one]; simp [prodE, unitE, List.replicate, pow1]
  have e5 : pv [x, y, q] (pVar 3 1) = y := by unfold pVar; rw [pv_one]; simp [prodE, unitE, List.replicate, pow1]
  simp only [lvals, e]
  show [pv [x, y, q] (pVar 3 0), pv [x, y, q] pAdd, pv [x, y, q] (pVar 3 1)] = _
  rw [e3, e4, e5]
theorem holds_one (f g : LZ → Bool) (l : LZ) (hf : f l = true) (b : Bool) (hb : b = true ↔ g l = true) : holdsR f g [l] = (b, 0) := by
  simp only [holdsR, hf, if_true]
  cases b with
  | true => rw [if_pos (hb.1 rfl)]
  | false =>
    rw [if_neg fun k => ?_]
    have := hb.2 k; cases this
/-- what Holds says of these systems -/
theorem prod_holds (x y q : Int) (hx : Fit x) (hy : Fit y) (hx0 : 0 ≤ x) (hy0 : 0 ≤ y) (h0 : 0 ≤ q) (h1 : q < 4294967296) (hF : Fit (x * y)) (b : Bool) (hb : b = true ↔ x * y = 0) : PureFn Try.prog 12 [aS sProd, .sl 2 eX [x, y, q]] (.tup [aB b, aN 0]) := by
  obtain ⟨f, hf⟩ := boolOf (EvL [x, y, q])
  obtain ⟨g, hg⟩ := boolOf (HoL [x, y, q])
  have h := Holds_ok sProd [x, y, q] sProd_w sProd_ok (by simp [hx, hy]; exact fit_small (by omega) (by omega)) rfl (by simp [hx0, hy0, h0]) f g hf hg
  have e : holdsR f g sProd.links = (b, 0) := by
    refine holds_one f g _ ((hf _).2 ((sProd_ev x y q).2 hF)) b ?_
    rw [hb, hg]
    unfold HoL lvals
    simp only [at3, List.map_cons, List.map_nil, pMul_pv]
    exact Iff.rfl
  rwa [e] at h
theorem prod_size (x y q : Int) (hx : Fit x) (hy : Fit y) (hx0 : 0 ≤ x) (hy0 : 0 ≤ y) (h0 : 0 ≤ q) (h1 : q < 4294967296) (hF : ¬ Fit (x * y)) : PureFn Try.prog 12 [aS sProd, .sl 2 eX [x, y, q]] (.tup [aB false, aN 4]) := by
  obtain ⟨f, hf⟩ := boolOf (EvL [x, y, q])
  obtain ⟨g, hg⟩ := boolOf (HoL [x, y, q])
  have h := Holds_ok sProd [x, y, q] sProd_w sProd_ok (by simp [hx, hy]; exact fit_small (by omega) (by omega)) rfl (by simp [hx0, hy0, h0]) f g hf hg
  have e : holdsR f g sProd.links = (false, 4) := by
    simp only [sProd, holdsR]
    rw [if_neg fun k => hF ((sProd_ev x y q).1 ((hf _).1 k))]
  rwa [e] at h
theorem big_holds (x y q k : Int) (hk : k = 1 ∨ k = 2) (hx : Fit x) (hy : Fit y) (hx0 : 0 ≤ x) (hy0 : 0 ≤ y) (h0 : 0 ≤ q) (h1 : q < 4294967296) (b : Bool) (hb : b = true ↔ k = 2 ∧ x = 1 ∧ y = 1) : PureFn Try.prog 12 [aS (sBig k), .sl 2 eX [x, y, q]] (.tup [aB b, aN 0]) := by
  obtain ⟨f, hf⟩ := boolOf (EvL [x, y, q])
  obtain ⟨g, hg⟩ := boolOf (HoL [x, y, q])
  have h := Holds_ok (sBig k) [x, y, q] (sBig_w k) (sBig_ok k hk) (by simp [hx, hy]; exact fit_small (by omega) (by omega)) rfl (by simp [hx0, hy0, h0]) f g hf hg
  have e : holdsR f g (sBig k).links = (b, 0) := by
    refine holds_one f g _ ((hf _).2 (sBig_ev x y q k hx hy h0 h1)) b ?_
    rw [hb, hg]
    unfold HoL
    rw [sBig_vals x y q k h0]
    rcases hk with rfl | rfl
    · show _ ↔ (2 ≤ x ∧ 1 ≤ q + 200000 ∧ psiN x (q + 200000).toNat = y)
      refine ⟨fun k => by omega, fun k => ?_⟩
      exfalso
      exact psi_not_fit k.1 (n := (q + 200000).toNat) (by omega) (by rw [k.2.2]; exact hy)
    · show _ ↔ (1 ≤ x ∧ 0 ≤ q + 200000 ∧ x ^ (q + 200000).toNat = y)
      refine ⟨fun k => ?_, fun k => ?_⟩
      · obtain ⟨_, rfl, rfl⟩ := k
        exact ⟨by omega, by omega, Int.one_pow⟩
      · by_cases hx1 : x = 1
        · subst hx1
          have := k.2.2
          rw [Int.one_pow] at this
          exact ⟨rfl, rfl, this.symm⟩
        · exfalso
          exact pow_not_fit (x := x) (n := (q + 200000).toNat) (by omega) (by omega) (by rw [k.2.2]; exact hy)
  rwa [e] at h
end Go.Proofs.Ytfkjhjgihbnegaa
namespace Go.AL
/-- Ways that come together behind two parts. -/
theorem AWP.seqJ2 {P : Program} {n : Nat} {I : List Id} {Q : Exit → St → Prop} {s : St} {a b c : Code} {G : Type} (J : G → Prop) (S : G → St) (h : AWP P n I a (AThen (fun s => AWP P n I b (AThen (JoinOk n I J S) Q) s) Q) s) (k : ∀ g, J g → AWP P n I c Q (S g)) : AWP P n I (.seq a (.seq b c)) Q s :=
  AWP.seq (h.mono fun e s q => by
    cases e with
    | normal => exact AWP.seqJ J S q k
    | _ => exact q)
end Go.AL
namespace Go.Proofs.Ytfkjhjgihbnegaa
open Go.AL

theorem big1_ok (i : Nat) (hi : i < 3) : PureFn Try.prog 8 [aN i] (aP (pVar 3 i)) := by
  refine PureFn.of_body Try.func8 rfl Try.ntmps8 rfl rfl ?_
  have h := rVar_ok 3 i hi (by omega)
  repeat' (first |refine Fl.v rfl rfl rfl ?_ |refine Fl.nilF ?_ |refine AWP.seq ?_ |refine AWP.region ?_ |refine Fl.b rfl rfl rfl rfl ?_ |fail)
  refine Fl.call rfl (h) rfl rfl rfl (LeL.refl _) ?_
  repeat' (first |refine Fl.nilF ?_ |refine Fl.b rfl rfl rfl rfl ?_ |refine AWP.ret ?_ |fail)
  exact RetOk.of rfl (AV.Le.refl _)
set_option maxHeartbeats 1000000 in
theorem SystemBig_ok (za zb : Z) (q : Int) (hwa : WOk za.w) (hwb : WOk zb.w) (hla : za.w.length ≤ 9223372036854775807) (hlb : zb.w.length ≤ 9223372036854775807) (h0 : 0 ≤ q) (h1 : q < 4294967296) : PureFn Try.prog 3 [aZ za, aZ zb, .v (.int .u32 q)] (aB true) := by
  refine PureFn.of_body Try.func3 rfl Try.ntmps3 rfl rfl ?_
  have hva := rValid_ok za hwa (by omega)
  have hvb := rValid_ok zb hwb (by omega)
  refine AWP.seqS ?_
  repeat' (first |refine Fl.v rfl rfl rfl ?_ |refine Fl.nilF ?_ |refine AWP.region ?_ |refine Fl.b rfl rfl rfl rfl ?_ |fail)
  refine ⟨AWP.seqS ?_⟩
  by_cases hoa : OkZ za
  case neg =>
    rw [decide_eq_false hoa] at hva
    repeat' (first |refine Fl.v rfl rfl rfl ?_ |refine AWP.seq ?_ |refine AWP.region ?_ |fail)
    refine Fl.call rfl (hva) rfl rfl rfl (LeL.refl _) ?_
    repeat' (first |refine Fl.v rfl rfl rfl ?_ |refine Fl.nilF ?_ |refine AWP.seq ?_ |refine AWP.region ?_ |refine Fl.skip rfl rfl ?_ |refine AWP.condT rfl ?_ |fail)
    refine Fl.call rfl (awake_ok) rfl rfl rfl (LeL.refl _) ?_
    repeat' (first |refine Fl.v rfl rfl rfl ?_ |refine Fl.nilF ?_ |refine AWP.ret ?_ |fail)
    exact RetOk.of rfl (AV.Le.refl _)
  by_cases hob : OkZ zb
  case neg =>
    rw [decide_eq_true hoa] at hva
    rw [decide_eq_false hob] at hvb
    repeat' (first |refine Fl.v rfl rfl rfl ?_ |refine AWP.seq ?_ |refine AWP.region ?_ |fail)
    refine Fl.call rfl (hva) rfl rfl rfl (LeL.refl _) ?_
    repeat' (first |refine Fl.v rfl rfl rfl ?_ |fail)
    refine Fl.call rfl (hvb) rfl rfl rfl (LeL.refl _) ?_
    repeat' (first |refine Fl.v rfl rfl rfl ?_ |refine Fl.nilF ?_ |refine AWP.seq ?_ |refine AWP.region ?_ |refine Fl.skip rfl rfl ?_ |refine AWP.condT rfl ?_ |fail)
    refine Fl.call rfl (awake_ok) rfl rfl rfl (LeL.refl _) ?_
    repeat' (first |refine Fl.v rfl rfl rfl ?_ |refine Fl.nilF ?_ |refine AWP.ret ?_ |fail)
    exact RetOk.of rfl (AV.Le.refl _)
  rw [decide_eq_true hoa] at hva
  rw [decide_eq_true hob] at hvb
  have la := hoa.1
  have lb' := hob.1
  obtain ⟨x, hx, hza⟩ : ∃ a, Fit a ∧ za = zOf a := ⟨zval za, (okZ_eq hwa hoa).2, (okZ_eq hwa hoa).1⟩
  obtain ⟨y, hy, hzb⟩ : ∃ a, Fit a ∧ zb = zOf a := ⟨zval zb, (okZ_eq hwb hob).2, (okZ_eq hwb hob).1⟩
  subst hza hzb
  repeat' (first |refine Fl.v rfl rfl rfl ?_ |refine AWP.seq ?_ |refine AWP.region ?_ |fail)
  refine Fl.call rfl (hva) rfl rfl rfl (LeL.refl _) ?_
  repeat' (first |refine Fl.v rfl rfl rfl ?_ |fail)
  refine Fl.call rfl (hvb) rfl rfl rfl (LeL.refl _) ?_
  repeat' (first |refine Fl.v rfl rfl rfl ?_ |refine Fl.nilF ?_ |refine AWP.seq ?_ |refine AWP.region ?_ |refine Fl.w rfl rfl rfl (by first | exact True.intro | omega) ?_ |refine Fl.skip rfl rfl ?_ |refine AWP.condT rfl ?_ |(refine AWP.condD rfl ?_ ?_ <;> intro _ <;> try (exfalso; omega)) |refine AWP.skip ?_ |(refine Fl.splitD rfl rfl ?_ ?_ <;> intro _ <;> try (exfalso; omega)) |fail)
  · refine Fl.call rfl (awake_ok) rfl rfl rfl (LeL.refl _) ?_
    repeat' (first |refine Fl.v rfl rfl rfl ?_ |refine Fl.nilF ?_ |refine AWP.ret ?_ |fail)
    exact RetOk.of rfl (AV.Le.refl _)
  · refine Fl.call rfl (awake_ok) rfl rfl rfl (LeL.refl _) ?_
    repeat' (first |refine Fl.v rfl rfl rfl ?_ |refine Fl.nilF ?_ |refine AWP.ret ?_ |fail)
    exact RetOk.of rfl (AV.Le.refl _)
  · refine Fl.call rfl (awake_ok) rfl rfl rfl (LeL.refl _) ?_
    repeat' (first |refine Fl.v rfl rfl rfl ?_ |refine Fl.nilF ?_ |refine AWP.ret ?_ |fail)
    exact RetOk.of rfl (AV.Le.refl _)
  rename_i hna hnb hlen
  have hx0 : 0 ≤ x := by omega
  have hy0 : 0 ≤ y := by omega
  have hlx : lenI x ≤ 4096 := hx.lenI
  have hly : lenI y ≤ 4096 := hy.lenI
  refine ⟨?_⟩
  have v0 := big1_ok 0 (by omega)
  have v1 := big1_ok 1 (by omega)
  have v2 := big1_ok 2 (by omega)
  have e1 : (zval (zOf 1)) * (zval (zOf 1)) = 1 := by rw [zval_zOf]; rfl
  have hmul : PureFn Try.prog 11 [aP (pVar 3 0), aP (pVar 3 1)] (aP pMul) := by
    have := rMulOne_ok 3 (by omega) ⟨zOf 1, unitE 3 0⟩ ⟨zOf 1, unitE 3 1⟩ (TermsOk.one (Nat.le_trans (lenI_small (by decide)) (by omega)) ((EOk.zeros _).set _ (by omega) (by omega)) rfl) (TermsOk.one (Nat.le_trans (lenI_small (by decide)) (by omega)) ((EOk.zeros _).set _ (by omega) (by omega)) rfl) (fun h => by have := (toW_len0 1).1 h; omega) (by rw [e1]; omega) (by intro e he; have : e ∈ [(1 : Int), 1, 0] := he; simp at this; omega)
    rw [e1] at this
    exact this
  have hcon := rConst_ok 3 200000 (by omega) (Nat.le_trans (lenI_small (by decide)) (by omega)) (by omega)
  have hadd : PureFn Try.prog 16 [aP (pVar 3 2), aP (pConst 3 200000)] (aP pAdd) := by
    have := rAddP_ok 3 1000 (by omega) (by omega) [⟨zOf 1, unitE 3 2⟩] [⟨zOf 200000, List.replicate 3 0⟩] (TermsOk.one (Nat.le_trans (lenI_small (by decide)) (by omega)) ((EOk.zeros _).set _ (by omega) (by omega)) rfl) (TermsOk.one (Nat.le_trans (lenI_small (by decide)) (by omega)) (EOk.zeros _) (by simp)) (by simp) (by simp)
    have e2 : mergeT [⟨zOf 1, unitE 3 2⟩] [⟨zOf 200000, List.replicate 3 0⟩] = pAdd.terms := by
      rw [mergeT, if_pos (by decide), keepT_1 (fun h => by have := (toW_len0 1).1 h; omega), mergeT, keepT_1 (fun h => by have := (toW_len0 200000).1 h; omega), mergeT]
      rfl
    rw [e2] at this
    exact this
  repeat' (first |refine Fl.v rfl rfl rfl ?_ |refine Fl.nilF ?_ |refine AWP.seq ?_ |refine AWP.region ?_ |fail)
  refine Fl.lit rfl rfl rfl rfl rfl eI [0, 1, 2] rfl rfl rfl rfl (by intro _ _; rfl) rfl ?_
  repeat' (first |refine Fl.v rfl rfl rfl ?_ |refine Fl.nilF ?_ |refine AWP.seq ?_ |refine AWP.region ?_ |refine Fl.cvS rfl rfl rfl rfl rfl rfl ?_ |fail)
  refine Fl.call rfl (rOf_ok q (by omega) (by omega)) rfl rfl rfl (LeL.cons (AV.Le.int (by omega)) LeL.nil) ?_
  skip
  refine Fl.lit rfl rfl rfl rfl rfl eX [x, y, q] rfl rfl rfl rfl (by intro _ _; rfl) rfl ?_
  repeat' (first |refine Fl.v rfl rfl rfl ?_ |refine Fl.nil (fun _ => by kernel_rfl) ?_ |refine AWP.seq ?_ |refine AWP.region ?_ |fail)
  refine Fl.callV rfl rfl (v0) rfl rfl rfl (LeL.refl _) ?_
  repeat' (first |refine Fl.v rfl rfl rfl ?_ |fail)
  refine Fl.callV rfl rfl (v1) rfl rfl rfl (LeL.refl _) ?_
  skip
  refine Fl.call rfl (hmul) rfl rfl rfl (LeL.refl _) ?_
  skip
  refine Fl.lit rfl rfl rfl rfl rfl eP [pMul] rfl rfl rfl rfl (by intro _ _; rfl) rfl ?_
  repeat' (first |refine Fl.b rfl rfl rfl rfl ?_ |fail)
  refine Fl.lit rfl rfl rfl rfl rfl eL [⟨0, [0, 1, 2], [pMul]⟩] rfl rfl rfl rfl (by intro _ _; rfl) rfl ?_
  repeat' (first |refine Fl.v rfl rfl rfl ?_ |refine Fl.nilF ?_ |refine Fl.b rfl rfl rfl rfl ?_ |refine AWP.condT rfl ?_ |refine AWP.condF rfl ?_ |refine AWP.skip ?_ |fail)
  have hxy0 : x * y = 0 ↔ x = 0 ∨ y = 0 := Int.mul_eq_zero
  have hm := rMul_ok x y (by have := hlx; unfold lenI at this; omega) (by have := hly; unfold lenI at this; omega)
  have hfi := rFits_ok (x * y)
  have hz1 := rZeroX_ok x
  have hz2 := rZeroX_ok y
  refine AWP.seqJ2 (G := Unit) (fun _ => True) (fun _ => St.of [] [(3, .ptr 3 0), (4, .ptr 4 0), (7, .fn 8 []), (8, aI [0, 1, 2]), (9, .sl 2 eX [x, y, q])] [(3, .cells (eX x) 24), (4, .cells (eX y) 24)]) ?_ ?_
  · repeat' (first |refine Fl.v rfl rfl rfl ?_ |refine AWP.region ?_ |fail)
    by_cases hF : Fit (x * y)
    · rw [decide_eq_true hF] at hfi
      by_cases hb0 : x * y = 0
      · have hh := prod_holds x y q hx hy hx0 hy0 h0 h1 hF true (by simp [hb0])
        refine Fl.call rfl (hh) rfl rfl rfl (LeL.refl _) ?_
        repeat' (first |refine Fl.v rfl rfl rfl ?_ |refine Fl.nilF ?_ |refine AWP.seq ?_ |refine AWP.region ?_ |refine Fl.w rfl rfl rfl (by first | exact True.intro | omega) ?_ |refine Fl.skip rfl rfl ?_ |refine AWP.condT rfl ?_ |(refine Fl.splitD rfl rfl ?_ ?_ <;> intro _ <;> try (exfalso; omega)) |fail)
        · refine Fl.call rfl (hm) rfl rfl rfl (LeL.refl _) ?_
          skip
          refine Fl.call rfl (hfi) rfl rfl rfl (LeL.refl _) ?_
          repeat' (first |refine Fl.v rfl rfl rfl ?_ |refine Fl.nilF ?_ |refine AWP.seq ?_ |refine AWP.region ?_ |(refine Fl.splitN rfl rfl ?_ ?_ <;> intro _ <;> try (exfalso; omega)) |fail)
          by_cases hxz : x = 0
          · rw [decide_eq_true hxz] at hz1
            refine Fl.call rfl (hz1) rfl rfl rfl (LeL.refl _) ?_
            repeat' (first |refine Fl.v rfl rfl rfl ?_ |refine Fl.nilF ?_ |refine Fl.skip rfl rfl ?_ |refine AWP.condF rfl ?_ |refine AWP.skip ?_ |fail)
            refine JoinOk.of () trivial ?_
            refine Ent.of [] ?_ ?_ rfl rfl
            repeat' (first | exact True.intro |refine ⟨⟨AV.Le.refl _, rfl⟩, ?_⟩ |refine ⟨⟨⟨_, rfl, BLe.cells (LeL.refl _)⟩, rfl⟩, ?_⟩ |refine ⟨⟨⟨_, rfl, BLe.row rfl⟩, rfl⟩, ?_⟩ |refine ⟨⟨⟨_, rfl, BLe.row ?_⟩, rfl⟩, ?_⟩ |refine ⟨⟨⟨_, rfl, BLe.cells ?_⟩, rfl⟩, ?_⟩ |refine ⟨⟨AV.Le.int ?_, rfl⟩, ?_⟩ |refine ⟨⟨AV.Le.bool ?_, rfl⟩, ?_⟩ |refine ⟨⟨AV.Le.sl ?_, rfl⟩, ?_⟩ |refine ⟨⟨AV.Le.of_eq ?_, rfl⟩, ?_⟩ | fail)
          · rw [decide_eq_false hxz] at hz1
            rw [decide_eq_true (by omega)] at hz2
            refine Fl.call rfl (hz1) rfl rfl rfl (LeL.refl _) ?_
            repeat' (first |refine Fl.v rfl rfl rfl ?_ |fail)
            refine Fl.call rfl (hz2) rfl rfl rfl (LeL.refl _) ?_
            repeat' (first |refine Fl.v rfl rfl rfl ?_ |refine Fl.nilF ?_ |refine AWP.condF rfl ?_ |refine AWP.skip ?_ |fail)
            refine JoinOk.of () trivial ?_
            refine Ent.of [] ?_ ?_ rfl rfl
            repeat' (first | exact True.intro |refine ⟨⟨AV.Le.refl _, rfl⟩, ?_⟩ |refine ⟨⟨⟨_, rfl, BLe.cells (LeL.refl _)⟩, rfl⟩, ?_⟩ |refine ⟨⟨⟨_, rfl, BLe.row rfl⟩, rfl⟩, ?_⟩ |refine ⟨⟨⟨_, rfl, BLe.row ?_⟩, rfl⟩, ?_⟩ |refine ⟨⟨⟨_, rfl, BLe.cells ?_⟩, rfl⟩, ?_⟩ |refine ⟨⟨AV.Le.int ?_, rfl⟩, ?_⟩ |refine ⟨⟨AV.Le.bool ?_, rfl⟩, ?_⟩ |refine ⟨⟨AV.Le.sl ?_, rfl⟩, ?_⟩ |refine ⟨⟨AV.Le.of_eq ?_, rfl⟩, ?_⟩ | fail)
        · refine Fl.call rfl (hm) rfl rfl rfl (LeL.refl _) ?_
          skip
          refine Fl.call rfl (hfi) rfl rfl rfl (LeL.refl _) ?_
          repeat' (first |refine Fl.v rfl rfl rfl ?_ |refine Fl.nilF ?_ |refine AWP.condF rfl ?_ |refine AWP.skip ?_ |fail)
          refine JoinOk.of () trivial ?_
          refine Ent.of [] ?_ ?_ rfl rfl
          repeat' (first | exact True.intro |refine ⟨⟨AV.Le.refl _, rfl⟩, ?_⟩ |refine ⟨⟨⟨_, rfl, BLe.cells (LeL.refl _)⟩, rfl⟩, ?_⟩ |refine ⟨⟨⟨_, rfl, BLe.row rfl⟩, rfl⟩, ?_⟩ |refine ⟨⟨⟨_, rfl, BLe.row ?_⟩, rfl⟩, ?_⟩ |refine ⟨⟨⟨_, rfl, BLe.cells ?_⟩, rfl⟩, ?_⟩ |refine ⟨⟨AV.Le.int ?_, rfl⟩, ?_⟩ |refine ⟨⟨AV.Le.bool ?_, rfl⟩, ?_⟩ |refine ⟨⟨AV.Le.sl ?_, rfl⟩, ?_⟩ |refine ⟨⟨AV.Le.of_eq ?_, rfl⟩, ?_⟩ | fail)
      · have hh := prod_holds x y q hx hy hx0 hy0 h0 h1 hF false (by simp [hb0])
        refine Fl.call rfl (hh) rfl rfl rfl (LeL.refl _) ?_
        repeat' (first |refine Fl.v rfl rfl rfl ?_ |refine Fl.nilF ?_ |refine AWP.seq ?_ |refine AWP.region ?_ |refine Fl.w rfl rfl rfl (by first | exact True.intro | omega) ?_ |refine Fl.skip rfl rfl ?_ |refine AWP.condT rfl ?_ |(refine Fl.splitD rfl rfl ?_ ?_ <;> intro _ <;> try (exfalso; omega)) |fail)
        · refine Fl.call rfl (hm) rfl rfl rfl (LeL.refl _) ?_
          skip
          refine Fl.call rfl (hfi) rfl rfl rfl (LeL.refl _) ?_
          repeat' (first |refine Fl.v rfl rfl rfl ?_ |refine Fl.nilF ?_ |refine AWP.seq ?_ |refine AWP.region ?_ |(refine Fl.splitN rfl rfl ?_ ?_ <;> intro _ <;> try (exfalso; omega)) |fail)
          rw [decide_eq_false (by omega)] at hz1
          rw [decide_eq_false (by omega)] at hz2
          refine Fl.call rfl (hz1) rfl rfl rfl (LeL.refl _) ?_
          repeat' (first |refine Fl.v rfl rfl rfl ?_ |fail)
          refine Fl.call rfl (hz2) rfl rfl rfl (LeL.refl _) ?_
          repeat' (first |refine Fl.v rfl rfl rfl ?_ |refine Fl.nilF ?_ |refine AWP.condF rfl ?_ |refine AWP.skip ?_ |fail)
          refine JoinOk.of () trivial ?_
          refine Ent.of [] ?_ ?_ rfl rfl
          repeat' (first | exact True.intro |refine ⟨⟨AV.Le.refl _, rfl⟩, ?_⟩ |refine ⟨⟨⟨_, rfl, BLe.cells (LeL.refl _)⟩, rfl⟩, ?_⟩ |refine ⟨⟨⟨_, rfl, BLe.row rfl⟩, rfl⟩, ?_⟩ |refine ⟨⟨⟨_, rfl, BLe.row ?_⟩, rfl⟩, ?_⟩ |refine ⟨⟨⟨_, rfl, BLe.cells ?_⟩, rfl⟩, ?_⟩ |refine ⟨⟨AV.Le.int ?_, rfl⟩, ?_⟩ |refine ⟨⟨AV.Le.bool ?_, rfl⟩, ?_⟩ |refine ⟨⟨AV.Le.sl ?_, rfl⟩, ?_⟩ |refine ⟨⟨AV.Le.of_eq ?_, rfl⟩, ?_⟩ | fail)
        · refine Fl.call rfl (hm) rfl rfl rfl (LeL.refl _) ?_
          skip
          refine Fl.call rfl (hfi) rfl rfl rfl (LeL.refl _) ?_
          repeat' (first |refine Fl.v rfl rfl rfl ?_ |refine Fl.nilF ?_ |refine AWP.condF rfl ?_ |refine AWP.skip ?_ |fail)
          refine JoinOk.of () trivial ?_
          refine Ent.of [] ?_ ?_ rfl rfl
          repeat' (first | exact True.intro |refine ⟨⟨AV.Le.refl _, rfl⟩, ?_⟩ |refine ⟨⟨⟨_, rfl, BLe.cells (LeL.refl _)⟩, rfl⟩, ?_⟩ |refine ⟨⟨⟨_, rfl, BLe.row rfl⟩, rfl⟩, ?_⟩ |refine ⟨⟨⟨_, rfl, BLe.row ?_⟩, rfl⟩, ?_⟩ |refine ⟨⟨⟨_, rfl, BLe.cells ?_⟩, rfl⟩, ?_⟩ |refine ⟨⟨AV.Le.int ?_, rfl⟩, ?_⟩ |refine ⟨⟨AV.Le.bool ?_, rfl⟩, ?_⟩ |refine ⟨⟨AV.Le.sl ?_, rfl⟩, ?_⟩ |refine ⟨⟨AV.Le.of_eq ?_, rfl⟩, ?_⟩ | fail)
    · rw [decide_eq_false hF] at hfi
      have hh := prod_size x y q hx hy hx0 hy0 h0 h1 hF
      refine Fl.call rfl (hh) rfl rfl rfl (LeL.refl _) ?_
      repeat' (first |refine Fl.v rfl rfl rfl ?_ |refine Fl.nilF ?_ |refine AWP.seq ?_ |refine AWP.region ?_ |refine Fl.w rfl rfl rfl (by first | exact True.intro | omega) ?_ |refine Fl.skip rfl rfl ?_ |refine AWP.condT rfl ?_ |(refine Fl.splitD rfl rfl ?_ ?_ <;> intro _ <;> try (exfalso; omega)) |fail)
      · refine Fl.call rfl (hm) rfl rfl rfl (LeL.refl _) ?_
        skip
        refine Fl.call rfl (hfi) rfl rfl rfl (LeL.refl _) ?_
        repeat' (first |refine Fl.v rfl rfl rfl ?_ |refine Fl.nilF ?_ |refine AWP.seq ?_ |refine AWP.region ?_ |refine Fl.skip rfl rfl ?_ |refine AWP.condF rfl ?_ |refine AWP.skip ?_ |fail)
        refine JoinOk.of () trivial ?_
        refine Ent.of [] ?_ ?_ rfl rfl
        repeat' (first | exact True.intro |refine ⟨⟨AV.Le.refl _, rfl⟩, ?_⟩ |refine ⟨⟨⟨_, rfl, BLe.cells (LeL.refl _)⟩, rfl⟩, ?_⟩ |refine ⟨⟨⟨_, rfl, BLe.row rfl⟩, rfl⟩, ?_⟩ |refine ⟨⟨⟨_, rfl, BLe.row ?_⟩, rfl⟩, ?_⟩ |refine ⟨⟨⟨_, rfl, BLe.cells ?_⟩, rfl⟩, ?_⟩ |refine ⟨⟨AV.Le.int ?_, rfl⟩, ?_⟩ |refine ⟨⟨AV.Le.bool ?_, rfl⟩, ?_⟩ |refine ⟨⟨AV.Le.sl ?_, rfl⟩, ?_⟩ |refine ⟨⟨AV.Le.of_eq ?_, rfl⟩, ?_⟩ | fail)
      · refine Fl.call rfl (hm) rfl rfl rfl (LeL.refl _) ?_
        skip
        refine Fl.call rfl (hfi) rfl rfl rfl (LeL.refl _) ?_
        repeat' (first |refine Fl.v rfl rfl rfl ?_ |refine Fl.nilF ?_ |refine AWP.seq ?_ |refine AWP.region ?_ |refine AWP.condT rfl ?_ |fail)
        refine Fl.call rfl (hm) rfl rfl rfl (LeL.refl _) ?_
        skip
        refine Fl.call rfl (hfi) rfl rfl rfl (LeL.refl _) ?_
        repeat' (first |refine Fl.v rfl rfl rfl ?_ |refine Fl.nilF ?_ |refine AWP.seq ?_ |refine AWP.region ?_ |refine Fl.skip rfl rfl ?_ |refine AWP.condF rfl ?_ |refine AWP.skip ?_ |fail)
        refine JoinOk.of () trivial ?_
        refine Ent.of [] ?_ ?_ rfl rfl
        repeat' (first | exact True.intro |refine ⟨⟨AV.Le.refl _, rfl⟩, ?_⟩ |refine ⟨⟨⟨_, rfl, BLe.cells (LeL.refl _)⟩, rfl⟩, ?_⟩ |refine ⟨⟨⟨_, rfl, BLe.row rfl⟩, rfl⟩, ?_⟩ |refine ⟨⟨⟨_, rfl, BLe.row ?_⟩, rfl⟩, ?_⟩ |refine ⟨⟨⟨_, rfl, BLe.cells ?_⟩, rfl⟩, ?_⟩ |refine ⟨⟨AV.Le.int ?_, rfl⟩, ?_⟩ |refine ⟨⟨AV.Le.bool ?_, rfl⟩, ?_⟩ |refine ⟨⟨AV.Le.sl ?_, rfl⟩, ?_⟩ |refine ⟨⟨AV.Le.of_eq ?_, rfl⟩, ?_⟩ | fail)
  · intro _ _
    repeat' (first |refine Fl.v rfl rfl rfl ?_ |refine Fl.nilF ?_ |refine AWP.seq ?_ |refine AWP.region ?_ |refine AWP.block ?_ |fail)
    refine AWP.loop (G := Nat) (fun i => i ≤ 2) (fun i => St.of [] [(3, .ptr 3 0), (4, .ptr 4 0), (7, .fn 8 []), (8, aI [0, 1, 2]), (9, .sl 2 eX [x, y, q]), (14, aN ((i : Int) + 1))] [(3, .cells (eX x) 24), (4, .cells (eX y) 24)]) (fun i => 2 - i) 0 (by omega) ?_ ?_
    · refine Ent.of [] ?_ ?_ rfl rfl
      repeat' (first | exact True.intro |refine ⟨⟨AV.Le.refl _, rfl⟩, ?_⟩ |refine ⟨⟨⟨_, rfl, BLe.cells (LeL.refl _)⟩, rfl⟩, ?_⟩ |refine ⟨⟨⟨_, rfl, BLe.row rfl⟩, rfl⟩, ?_⟩ |refine ⟨⟨⟨_, rfl, BLe.row ?_⟩, rfl⟩, ?_⟩ |refine ⟨⟨⟨_, rfl, BLe.cells ?_⟩, rfl⟩, ?_⟩ |refine ⟨⟨AV.Le.int ?_, rfl⟩, ?_⟩ |refine ⟨⟨AV.Le.bool ?_, rfl⟩, ?_⟩ |refine ⟨⟨AV.Le.sl ?_, rfl⟩, ?_⟩ |refine ⟨⟨AV.Le.of_eq ?_, rfl⟩, ?_⟩ | fail)
    · intro i hi
      have hi3 : i = 0 ∨ i = 1 ∨ i = 2 := by omega
      rcases hi3 with rfl | rfl | rfl
      · have hb1 := big_holds x y q 1 (.inl rfl) hx hy hx0 hy0 h0 h1 false (by simp)
        repeat' (first |refine Fl.v rfl rfl rfl ?_ |refine Fl.nilF ?_ |refine AWP.seq ?_ |refine AWP.region ?_ |refine AWP.condT rfl ?_ |refine AWP.block ?_ |refine AWP.skip ?_ |fail)
        refine Fl.callV rfl rfl (v0) rfl rfl rfl (LeL.refl _) ?_
        repeat' (first |refine Fl.v rfl rfl rfl ?_ |fail)
        refine Fl.callV rfl rfl (v2) rfl rfl rfl (LeL.refl _) ?_
        skip
        refine Fl.call rfl (rOf_ok 200000 (by omega) (by omega)) rfl rfl rfl (LeL.refl _) ?_
        skip
        refine Fl.call rfl (hcon) rfl rfl rfl (LeL.refl _) ?_
        skip
        refine Fl.call rfl (hadd) rfl rfl rfl (LeL.refl _) ?_
        repeat' (first |refine Fl.v rfl rfl rfl ?_ |fail)
        refine Fl.callV rfl rfl (v1) rfl rfl rfl (LeL.refl _) ?_
        skip
        refine Fl.lit rfl rfl rfl rfl rfl eP [pVar 3 0, pAdd, pVar 3 1] rfl rfl rfl rfl (by intro _ _; rfl) rfl ?_
        repeat' (first |refine Fl.b rfl rfl rfl rfl ?_ |fail)
        refine Fl.lit rfl rfl rfl rfl rfl eL [lBig 1] rfl rfl rfl rfl (by intro _ _; rfl) rfl ?_
        repeat' (first |refine Fl.v rfl rfl rfl ?_ |refine Fl.nilF ?_ |refine Fl.nil (fun _ => by kernel_rfl) ?_ |refine AWP.seq ?_ |refine AWP.region ?_ |refine Fl.b rfl rfl rfl rfl ?_ |refine Fl.skip rfl rfl ?_ |fail)
        refine Fl.call rfl (hb1) rfl rfl rfl (LeL.refl _) ?_
        repeat' (first |refine Fl.v rfl rfl rfl ?_ |refine Fl.nilF ?_ |refine AWP.seq ?_ |refine AWP.region ?_ |refine Fl.w rfl rfl rfl (by first | exact True.intro | omega) ?_ |refine AWP.condF rfl ?_ |refine AWP.skip ?_ |fail)
        refine LoopEnd.of 1 (by omega) (by omega) ?_
        refine Ent.of [] ?_ ?_ rfl rfl
        repeat' (first | exact True.intro |refine ⟨⟨AV.Le.refl _, rfl⟩, ?_⟩ |refine ⟨⟨⟨_, rfl, BLe.cells (LeL.refl _)⟩, rfl⟩, ?_⟩ |refine ⟨⟨⟨_, rfl, BLe.row rfl⟩, rfl⟩, ?_⟩ |refine ⟨⟨⟨_, rfl, BLe.row ?_⟩, rfl⟩, ?_⟩ |refine ⟨⟨⟨_, rfl, BLe.cells ?_⟩, rfl⟩, ?_⟩ |refine ⟨⟨AV.Le.int ?_, rfl⟩, ?_⟩ |refine ⟨⟨AV.Le.bool ?_, rfl⟩, ?_⟩ |refine ⟨⟨AV.Le.sl ?_, rfl⟩, ?_⟩ |refine ⟨⟨AV.Le.of_eq ?_, rfl⟩, ?_⟩ | fail)
      · have hs1 := rSame_ok x 1 (by have := hlx; unfold lenI at this; omega)
        have hs2 := rSame_ok y 1 (by have := hly; unfold lenI at this; omega)
        by_cases hx1 : x = 1
        · rw [decide_eq_true hx1] at hs1
          by_cases hy1 : y = 1
          · rw [decide_eq_true hy1] at hs2
            have hb2 := big_holds x y q 2 (.inr rfl) hx hy hx0 hy0 h0 h1 true (by simp [hx1, hy1])
            repeat' (first |refine Fl.v rfl rfl rfl ?_ |refine Fl.nilF ?_ |refine AWP.seq ?_ |refine AWP.region ?_ |refine AWP.condT rfl ?_ |refine AWP.block ?_ |refine AWP.skip ?_ |fail)
            refine Fl.callV rfl rfl (v0) rfl rfl rfl (LeL.refl _) ?_
            repeat' (first |refine Fl.v rfl rfl rfl ?_ |fail)
            refine Fl.callV rfl rfl (v2) rfl rfl rfl (LeL.refl _) ?_
            skip
            refine Fl.call rfl (rOf_ok 200000 (by omega) (by omega)) rfl rfl rfl (LeL.refl _) ?_
            skip
            refine Fl.call rfl (hcon) rfl rfl rfl (LeL.refl _) ?_
            skip
            refine Fl.call rfl (hadd) rfl rfl rfl (LeL.refl _) ?_
            repeat' (first |refine Fl.v rfl rfl rfl ?_ |fail)
            refine Fl.callV rfl rfl (v1) rfl rfl rfl (LeL.refl _) ?_
            skip
            refine Fl.lit rfl rfl rfl rfl rfl eP [pVar 3 0, pAdd, pVar 3 1] rfl rfl rfl rfl (by intro _ _; rfl) rfl ?_
            repeat' (first |refine Fl.b rfl rfl rfl rfl ?_ |fail)
            refine Fl.lit rfl rfl rfl rfl rfl eL [lBig 2] rfl rfl rfl rfl (by intro _ _; rfl) rfl ?_
            repeat' (first |refine Fl.v rfl rfl rfl ?_ |refine Fl.nilF ?_ |refine AWP.seq ?_ |refine AWP.region ?_ |refine Fl.b rfl rfl rfl rfl ?_ |(refine Fl.splitD rfl rfl ?_ ?_ <;> intro _ <;> try (exfalso; omega)) |fail)
            refine Fl.call rfl (rOf_ok 1 (by omega) (by omega)) rfl rfl rfl (LeL.refl _) ?_
            skip
            refine Fl.call rfl (hs1) rfl rfl rfl (LeL.refl _) ?_
            repeat' (first |refine Fl.v rfl rfl rfl ?_ |fail)
            refine Fl.call rfl (rOf_ok 1 (by omega) (by omega)) rfl rfl rfl (LeL.refl _) ?_
            skip
            refine Fl.call rfl (hs2) rfl rfl rfl (LeL.refl _) ?_
            repeat' (first |refine Fl.v rfl rfl rfl ?_ |refine Fl.nil (fun _ => by kernel_rfl) ?_ |refine AWP.seq ?_ |refine AWP.region ?_ |fail)
            refine Fl.call rfl (hb2) rfl rfl rfl (LeL.refl _) ?_
            repeat' (first |refine Fl.v rfl rfl rfl ?_ |refine Fl.nilF ?_ |refine AWP.seq ?_ |refine AWP.region ?_ |refine Fl.w rfl rfl rfl (by first | exact True.intro | omega) ?_ |refine AWP.condF rfl ?_ |refine AWP.skip ?_ |fail)
            refine LoopEnd.of 2 (by omega) (by omega) ?_
            refine Ent.of [] ?_ ?_ rfl rfl
            repeat' (first | exact True.intro |refine ⟨⟨AV.Le.refl _, rfl⟩, ?_⟩ |refine ⟨⟨⟨_, rfl, BLe.cells (LeL.refl _)⟩, rfl⟩, ?_⟩ |refine ⟨⟨⟨_, rfl, BLe.row rfl⟩, rfl⟩, ?_⟩ |refine ⟨⟨⟨_, rfl, BLe.row ?_⟩, rfl⟩, ?_⟩ |refine ⟨⟨⟨_, rfl, BLe.cells ?_⟩, rfl⟩, ?_⟩ |refine ⟨⟨AV.Le.int ?_, rfl⟩, ?_⟩ |refine ⟨⟨AV.Le.bool ?_, rfl⟩, ?_⟩ |refine ⟨⟨AV.Le.sl ?_, rfl⟩, ?_⟩ |refine ⟨⟨AV.Le.of_eq ?_, rfl⟩, ?_⟩ | fail)
          · rw [decide_eq_false hy1] at hs2
            have hb2 := big_holds x y q 2 (.inr rfl) hx hy hx0 hy0 h0 h1 false (by simp [hx1, hy1])
            repeat' (first |refine Fl.v rfl rfl rfl ?_ |refine Fl.nilF ?_ |refine AWP.seq ?_ |refine AWP.region ?_ |refine AWP.condT rfl ?_ |refine AWP.block ?_ |refine AWP.skip ?_ |fail)
            refine Fl.callV rfl rfl (v0) rfl rfl rfl (LeL.refl _) ?_
            repeat' (first |refine Fl.v rfl rfl rfl ?_ |fail)
            refine Fl.callV rfl rfl (v2) rfl rfl rfl (LeL.refl _) ?_
            skip
            refine Fl.call rfl (rOf_ok 200000 (by omega) (by omega)) rfl rfl rfl (LeL.refl _) ?_
            skip
            refine Fl.call rfl (hcon) rfl rfl rfl (LeL.refl _) ?_
            skip
            refine Fl.call rfl (hadd) rfl rfl rfl (LeL.refl _) ?_
            repeat' (first |refine Fl.v rfl rfl rfl ?_ |fail)
            refine Fl.callV rfl rfl (v1) rfl rfl rfl (LeL.refl _) ?_
            skip
            refine Fl.lit rfl rfl rfl rfl rfl eP [pVar 3 0, pAdd, pVar 3 1] rfl rfl rfl rfl (by intro _ _; rfl) rfl ?_
            repeat' (first |refine Fl.b rfl rfl rfl rfl ?_ |fail)
            refine Fl.lit rfl rfl rfl rfl rfl eL [lBig 2] rfl rfl rfl rfl (by intro _ _; rfl) rfl ?_
            repeat' (first |refine Fl.v rfl rfl rfl ?_ |refine Fl.nilF ?_ |refine AWP.seq ?_ |refine AWP.region ?_ |refine Fl.b rfl rfl rfl rfl ?_ |(refine Fl.splitD rfl rfl ?_ ?_ <;> intro _ <;> try (exfalso; omega)) |fail)
            refine Fl.call rfl (rOf_ok 1 (by omega) (by omega)) rfl rfl rfl (LeL.refl _) ?_
            skip
            refine Fl.call rfl (hs1) rfl rfl rfl (LeL.refl _) ?_
            repeat' (first |refine Fl.v rfl rfl rfl ?_ |fail)
            refine Fl.call rfl (rOf_ok 1 (by omega) (by omega)) rfl rfl rfl (LeL.refl _) ?_
            skip
            refine Fl.call rfl (hs2) rfl rfl rfl (LeL.refl _) ?_
            repeat' (first |refine Fl.v rfl rfl rfl ?_ |refine Fl.nil (fun _ => by kernel_rfl) ?_ |refine AWP.seq ?_ |refine AWP.region ?_ |fail)
            refine Fl.call rfl (hb2) rfl rfl rfl (LeL.refl _) ?_
            repeat' (first |refine Fl.v rfl rfl rfl ?_ |refine Fl.nilF ?_ |refine AWP.seq ?_ |refine AWP.region ?_ |refine Fl.w rfl rfl rfl (by first | exact True.intro | omega) ?_ |refine AWP.condF rfl ?_ |refine AWP.skip ?_ |fail)
            refine LoopEnd.of 2 (by omega) (by omega) ?_
            refine Ent.of [] ?_ ?_ rfl rfl
            repeat' (first | exact True.intro |refine ⟨⟨AV.Le.refl _, rfl⟩, ?_⟩ |refine ⟨⟨⟨_, rfl, BLe.cells (LeL.refl _)⟩, rfl⟩, ?_⟩ |refine ⟨⟨⟨_, rfl, BLe.row rfl⟩, rfl⟩, ?_⟩ |refine ⟨⟨⟨_, rfl, BLe.row ?_⟩, rfl⟩, ?_⟩ |refine ⟨⟨⟨_, rfl, BLe.cells ?_⟩, rfl⟩, ?_⟩ |refine ⟨⟨AV.Le.int ?_, rfl⟩, ?_⟩ |refine ⟨⟨AV.Le.bool ?_, rfl⟩, ?_⟩ |refine ⟨⟨AV.Le.sl ?_, rfl⟩, ?_⟩ |refine ⟨⟨AV.Le.of_eq ?_, rfl⟩, ?_⟩ | fail)
        · rw [decide_eq_false hx1] at hs1
          have hb2 := big_holds x y q 2 (.inr rfl) hx hy hx0 hy0 h0 h1 false (by simp [hx1])
          repeat' (first |refine Fl.v rfl rfl rfl ?_ |refine Fl.nilF ?_ |refine AWP.seq ?_ |refine AWP.region ?_ |refine AWP.condT rfl ?_ |refine AWP.block ?_ |refine AWP.skip ?_ |fail)
          refine Fl.callV rfl rfl (v0) rfl rfl rfl (LeL.refl _) ?_
          repeat' (first |refine Fl.v rfl rfl rfl ?_ |fail)
          refine Fl.callV rfl rfl (v2) rfl rfl rfl (LeL.refl _) ?_
          skip
          refine Fl.call rfl (rOf_ok 200000 (by omega) (by omega)) rfl rfl rfl (LeL.refl _) ?_
          skip
          refine Fl.call rfl (hcon) rfl rfl rfl (LeL.refl _) ?_
          skip
          refine Fl.call rfl (hadd) rfl rfl rfl (LeL.refl _) ?_
          repeat' (first |refine Fl.v rfl rfl rfl ?_ |fail)
          refine Fl.callV rfl rfl (v1) rfl rfl rfl (LeL.refl _) ?_
          skip
          refine Fl.lit rfl rfl rfl rfl rfl eP [pVar 3 0, pAdd, pVar 3 1] rfl rfl rfl rfl (by intro _ _; rfl) rfl ?_
          repeat' (first |refine Fl.b rfl rfl rfl rfl ?_ |fail)
          refine Fl.lit rfl rfl rfl rfl rfl eL [lBig 2] rfl rfl rfl rfl (by intro _ _; rfl) rfl ?_
          repeat' (first |refine Fl.v rfl rfl rfl ?_ |refine Fl.nilF ?_ |refine AWP.seq ?_ |refine AWP.region ?_ |refine Fl.b rfl rfl rfl rfl ?_ |(refine Fl.splitD rfl rfl ?_ ?_ <;> intro _ <;> try (exfalso; omega)) |fail)
          refine Fl.call rfl (rOf_ok 1 (by omega) (by omega)) rfl rfl rfl (LeL.refl _) ?_
          skip
          refine Fl.call rfl (hs1) rfl rfl rfl (LeL.refl _) ?_
          repeat' (first |refine Fl.v rfl rfl rfl ?_ |refine Fl.nil (fun _ => by kernel_rfl) ?_ |refine AWP.seq ?_ |refine AWP.region ?_ |refine Fl.skip rfl rfl ?_ |fail)
          refine Fl.call rfl (hb2) rfl rfl rfl (LeL.refl _) ?_
          repeat' (first |refine Fl.v rfl rfl rfl ?_ |refine Fl.nilF ?_ |refine AWP.seq ?_ |refine AWP.region ?_ |refine Fl.w rfl rfl rfl (by first | exact True.intro | omega) ?_ |refine AWP.condF rfl ?_ |refine AWP.skip ?_ |fail)
          refine LoopEnd.of 2 (by omega) (by omega) ?_
          refine Ent.of [] ?_ ?_ rfl rfl
          repeat' (first | exact True.intro |refine ⟨⟨AV.Le.refl _, rfl⟩, ?_⟩ |refine ⟨⟨⟨_, rfl, BLe.cells (LeL.refl _)⟩, rfl⟩, ?_⟩ |refine ⟨⟨⟨_, rfl, BLe.row rfl⟩, rfl⟩, ?_⟩ |refine ⟨⟨⟨_, rfl, BLe.row ?_⟩, rfl⟩, ?_⟩ |refine ⟨⟨⟨_, rfl, BLe.cells ?_⟩, rfl⟩, ?_⟩ |refine ⟨⟨AV.Le.int ?_, rfl⟩, ?_⟩ |refine ⟨⟨AV.Le.bool ?_, rfl⟩, ?_⟩ |refine ⟨⟨AV.Le.sl ?_, rfl⟩, ?_⟩ |refine ⟨⟨AV.Le.of_eq ?_, rfl⟩, ?_⟩ | fail)
      · repeat' (first |refine Fl.v rfl rfl rfl ?_ |refine Fl.nilF ?_ |refine AWP.seq ?_ |refine AWP.region ?_ |refine AWP.condF rfl ?_ |refine AWP.exit ?_ |fail)
        refine Fl.call rfl (awake_ok) rfl rfl rfl (LeL.refl _) ?_
        repeat' (first |refine Fl.v rfl rfl rfl ?_ |refine Fl.nilF ?_ |refine AWP.ret ?_ |fail)
        exact RetOk.of rfl (AV.Le.refl _)
end Go.Proofs.Ytfkjhjgihbnegaa

