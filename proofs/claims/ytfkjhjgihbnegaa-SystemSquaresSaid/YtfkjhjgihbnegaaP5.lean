/- Part 5 of a proof layer and of the contracts of the functions (XH0 XH1). -/
import Derived.ProofKit
import Derived.OpenShut
import Derived.Carry
import Derived.ChangeSame
import Derived.ReadAgain
import Derived.Test.YtfkjhjgihbnegaaRows
import Derived.Test.YtfkjhjgihbnegaaP4
/- From what a claim's arguments read as to abstract values over the memory as it stands. -/
namespace Go.AL
/-- all cells of a world -/
def hpOf (w : World) : Hp := fun b => match w.heap[b]? with | some (.cells cs _ _) => some cs | _ => none
theorem hpOf_has (w : World) : Has w (hpOf w) := fun b cs h => by
  unfold hpOf at h
  split at h
  · rename_i cs' t fr hb
    injection h with h; subst h
    exact ⟨t, fr, hb⟩
  · cases h
theorem hcell_of {w : World} {a : Addr} {u : Value} (h : w.cell? a = some u) : hcell (hpOf w) a u := by
  unfold World.cell? at h
  split at h
  · rename_i c t fr hb
    split at h
    · cases h
    · rename_i hs
      exact ⟨by simpa using hs, c, by simp [hpOf, hb], h⟩
  · cases h
theorem mapM_get {α β : Type} {f : α → Option β} : ∀ {l : List α} {r : List β}, l.mapM f = some r → r.length = l.length ∧ ∀ (i : Nat) (x : α) (y : β), l[i]? = some x → r[i]? = some y → f x = some y
  | [], r, h => by
    simp at h; subst h; simp
  | x :: l, r, h => by
    simp only [List.mapM_cons, Option.bind_eq_bind, Option.bind_eq_some_iff, Option.pure_def, Option.some.injEq] at h
    obtain ⟨y, h1, ys, h2, rfl⟩ := h
    obtain ⟨h3, h4⟩ := mapM_get h2
    refine ⟨by simp [h3], fun i a b ha hb => ?_⟩
    cases i with
    | zero => simp at ha hb; subst ha hb; exact h1
    | succ i => exact h4 i a b (by simpa using ha) (by simpa using hb)
theorem cells_of {w : World} {base : Nat} {a : Addr} {n : Nat} {cs : List Value} (h : w.cells? base a n = some cs) : cs.length = n ∧ ∀ (j : Nat) (u : Value), cs[j]? = some u → hcell (hpOf w) (a.add j) u := by
  unfold World.cells? at h
  split at h
  · obtain ⟨h1, h2⟩ := mapM_get h
    rw [List.length_range] at h1
    refine ⟨h1, fun j u hu => hcell_of ?_⟩
    have hj : j < n := by rw [← h1]; exact (List.getElem?_eq_some_iff.1 hu).1
    exact h2 j j u (by simp [hj]) hu
  · cases h
section
variable {H : Type} {enc : TypeId × Value → H} {P : Program} {w : World} {base : Nat} {spare : Nat → Bool} {held : Bool}
theorem trodInt {t : TypeId} {k : IntKind} {fuel : Nat} {cs : List Value} {x : DataW H × List MemPlace} (ht : P.underlying t = some (.int k)) (h : DataW.trod enc P w base spare held fuel t cs = some x) : ∃ n, cs = [.int k n] ∧ (Lit.int k n).wf = true := by
  cases fuel with
  | zero => simp [DataW.trod] at h
  | succ fuel =>
    simp only [DataW.trod, ht] at h
    split at h <;> simp_all
theorem trodBool {t : TypeId} {fuel : Nat} {cs : List Value} {x : DataW H × List MemPlace} (ht : P.underlying t = some .bool) (h : DataW.trod enc P w base spare held fuel t cs = some x) : ∃ b, cs = [.bool b] := by
  cases fuel with
  | zero => simp [DataW.trod] at h
  | succ fuel =>
    simp only [DataW.trod, ht] at h
    split at h <;> simp_all
/-- A slice: so many elements, of each what its cells say. -/
theorem trodSlice {α : Type} (sz : Nat) (en : α → List AV) (Q : α → Prop) {t e : TypeId} {fuel : Nat} {cs : List Value} {x : DataW H × List MemPlace} (ht : P.underlying t = some (.slice e)) (hsz : P.cellsOf e = sz)
    (hel : ∀ (fuel : Nat) (us : List Value) (y : DataW H × List MemPlace), us.length = sz → DataW.trod enc P w base spare held fuel e us = some y → ∃ a, RepL (hpOf w) noB (en a) us ∧ Q a)
    (h : DataW.trod enc P w base spare held fuel t cs = some x) : ∃ (xs : List α) (u : Value), cs = [u] ∧ Rep (hpOf w) noB (.sl sz en xs) u ∧ (∀ a ∈ xs, Q a) ∧ xs.length ≤ maxLen := by
  cases fuel with
  | zero => simp [DataW.trod] at h
  | succ fuel =>
    simp only [DataW.trod, ht] at h
    split at h <;> try (simp_all; done)
    · refine ⟨[], _, rfl, ?_, by simp, by simp [maxLen]⟩
      simp only [Rep]
      exact ⟨none, 0, rfl, by simp, by simp [maxLen], fun i y hy => by simp at hy⟩
    · rename_i e' a len cap heq
      injection heq with heq; injection heq with heq; subst heq
      split at h
      · rename_i hc
        simp only [Option.bind_eq_some_iff] at h
        obtain ⟨elems, h1, _⟩ := h
        obtain ⟨h2, h3⟩ := mapM_get h1
        rw [List.length_range] at h2
        have hall : ∀ i, i < len → ∃ (us : List Value) (a' : α), us.length = sz ∧ (∀ (j : Nat) (u : Value), us[j]? = some u → hcell (hpOf w) ((a.add (i * sz)).add j) u) ∧ RepL (hpOf w) noB (en a') us ∧ Q a' := by
          intro i hi
          have := h3 i i (elems[i]'(by omega)) (by simp [hi]) (List.getElem?_eq_getElem _)
          simp only [Option.bind_eq_some_iff] at this
          obtain ⟨us, hu1, hu2⟩ := this
          rw [hsz] at hu1
          obtain ⟨hu3, hu4⟩ := cells_of hu1
          obtain ⟨a', ha1, ha2⟩ := hel fuel us _ hu3 hu2
          exact ⟨us, a', hu3, hu4, ha1, ha2⟩
        have hex : ∃ xs : List α, xs.length = len ∧ ∀ (i : Nat) (y : α), xs[i]? = some y → ∃ us : List Value, us.length = sz ∧ (∀ (j : Nat) (u : Value), us[j]? = some u → hcell (hpOf w) ((a.add (i * sz)).add j) u) ∧ RepL (hpOf w) noB (en y) us ∧ Q y := by
          have : ∀ n, n ≤ len → ∃ xs : List α, xs.length = n ∧ ∀ (i : Nat) (y : α), xs[i]? = some y → ∃ us : List Value, us.length = sz ∧ (∀ (j : Nat) (u : Value), us[j]? = some u → hcell (hpOf w) ((a.add (i * sz)).add j) u) ∧ RepL (hpOf w) noB (en y) us ∧ Q y := by
            intro n
            induction n with
            | zero => exact fun _ => ⟨[], rfl, fun i y hy => by simp at hy⟩
            | succ n ih =>
              intro hn
              obtain ⟨xs, hx1, hx2⟩ := ih (by omega)
              obtain ⟨us, a', q1, q2, q3, q4⟩ := hall n (by omega)
              refine ⟨xs ++ [a'], by simp [hx1], fun i y hy => ?_⟩
              rw [List.getElem?_append] at hy
              split at hy
              · exact hx2 i y hy
              · rename_i hi
                have hin : i = n := by
                  have := (List.getElem?_eq_some_iff.1 hy).1
                  simp at this; omega
                subst hin
                rw [hx1, Nat.sub_self] at hy
                simp at hy; subst hy
                exact ⟨us, q1, q2, q3, q4⟩
          exact this len (Nat.le_refl _)
        obtain ⟨xs, hx1, hx2⟩ := hex
        refine ⟨xs, _, rfl, ?_, fun y hy => ?_, by omega⟩
        · simp only [Rep]
          refine ⟨some a, cap, by rw [hx1], by omega, by omega, fun i y hy => ?_⟩
          obtain ⟨us, q1, q2, q3, _⟩ := hx2 i y hy
          refine ⟨a, us, rfl, q1, q3, fun j u hu => ?_⟩
          have := q2 j u hu
          have hadd : (a.add (i * sz)).add j = a.add (i * sz + j) := by
            unfold Addr.add
            by_cases k1 : i * sz = 0
            · rw [k1]; simp
            · by_cases k2 : j = 0
              · subst k2; simp [k1]
              · simp [k1, k2, Nat.add_assoc]
          rwa [hadd] at this
        · obtain ⟨i, hi, rfl⟩ := List.mem_iff_getElem.1 hy
          obtain ⟨_, _, _, _, hq⟩ := hx2 i _ (List.getElem?_eq_getElem hi)
          exact hq
      · cases h
end
end Go.AL
namespace Go.AL
/-- what a number in memory is -/
def ZB (z : Z) : Prop := WOk z.w ∧ z.w.length ≤ maxLen
theorem list2 {α : Type} {l : List α} (h : l.length = 2) : ∃ a b, l = [a, b] := by
  match l, h with
  | [a, b], _ => exact ⟨a, b, rfl⟩
theorem list3 {α : Type} {l : List α} (h : l.length = 3) : ∃ a b c, l = [a, b, c] := by
  match l, h with
  | [a, b, c], _ => exact ⟨a, b, c, rfl⟩
end Go.AL
namespace Go.Proofs.Ytfkjhjgihbnegaa
open Go.AL Go.ChangeShapes Go.WideShapes Go.ChangeAt Go.RowKit

section
variable {H : Type} {enc : TypeId × Value → H} {w : World} {base : Nat} {spare : Nat → Bool} {held : Bool}
theorem wfU32 {n : Int} (h : (Lit.int .u32 n).wf = true) : 0 ≤ n ∧ n < 4294967296 := by
  simp [Lit.wf] at h
  have h1 : IntKind.u32.min = 0 := rfl
  have h2 : IntKind.u32.max = 4294967295 := rfl
  omega
theorem wfU8 {n : Int} (h : (Lit.int .u8 n).wf = true) : 0 ≤ n ∧ n ≤ 255 := by
  simp [Lit.wf] at h
  have h1 : IntKind.u8.min = 0 := rfl
  have h2 : IntKind.u8.max = 255 := rfl
  omega
theorem wfI64 {n : Int} (h : (Lit.int .i64 n).wf = true) : -9223372036854775808 ≤ n ∧ n ≤ 9223372036854775807 := by
  simp [Lit.wf] at h
  have h1 : IntKind.i64.min = -9223372036854775808 := rfl
  have h2 : IntKind.i64.max = 9223372036854775807 := rfl
  omega
theorem trodW {fuel : Nat} {cs : List Value} {x : DataW H × List MemPlace} (h : DataW.trod enc Try.prog w base spare held fuel 22 cs = some x) : ∃ (xs : List Int) (u : Value), cs = [u] ∧ Rep (hpOf w) noB (aW xs) u ∧ WOk xs ∧ xs.length ≤ maxLen := by
  refine trodSlice 1 eW (fun n => 0 ≤ n ∧ n < 4294967296) Try.underlying22 (by kernel_rfl) (fun fuel us y _ hy => ?_) h
  obtain ⟨n, rfl, hn⟩ := trodInt Try.underlying25 hy
  exact ⟨n, ⟨_, _, rfl, by simp only [Rep], rfl⟩, wfU32 hn⟩
theorem trodZ {fuel : Nat} {cs : List Value} {x : DataW H × List MemPlace} (h : DataW.trod enc Try.prog w base spare held fuel 24 cs = some x) : ∃ z : Z, RepL (hpOf w) noB (eZ z) cs ∧ ZB z := by
  obtain ⟨y0, y1, n, _, hl, h0, h1⟩ := trod_struct2 Try.underlying24 h
  have hc : Try.prog.cellsOf 24 = 2 := by kernel_rfl
  have hb : Try.prog.cellsOf 4 = 1 := by kernel_rfl
  have hs : Try.prog.cellsOf 22 = 1 := by kernel_rfl
  rw [hc] at hl
  obtain ⟨c0, c1, rfl⟩ := list2 hl
  simp only [hb, hs, List.drop_zero, List.take_succ_cons, List.take_zero, List.drop_succ_cons] at h0 h1
  obtain ⟨b, e0⟩ := trodBool Try.underlying4 h0
  obtain ⟨xs, u, e1, hr, hw, hm⟩ := trodW h1
  injection e0 with e0; injection e1 with e1; subst e0 e1
  exact ⟨⟨b, xs⟩, ⟨_, _, rfl, by simp only [Rep], ⟨_, _, rfl, hr, rfl⟩⟩, hw, hm⟩
end
/-- The law's contract, met by a claim's arguments. -/
theorem own : ownKnob Try.prog.godebug = none := by kernel_rfl
theorem lb : laidOutB Try.prog = true := by kernel_rfl
end Go.Proofs.Ytfkjhjgihbnegaa
