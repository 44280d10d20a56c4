/- IsTriangulation: both functions answer alike. The bounds stand in each theorem. -/
import Derived.Test.YtlccpkggdmngaaaPtc
import Derived.Test.YtlccpkggdmngaaaPtl
import Derived.Test.YtlccpkggdmngaaaPhT
import Derived.Test.YtlccpkggdmngaaaF39
import Derived.Test.YtlccpkggdmngaaaF41
namespace Go.Proofs.Ytlccpkggdmngaaa.G
open Go.RowKit Go.Proofs.YtlccpkggdmngaaaW.PrintWords Go.Proofs.YtlccpkggdmngaaaW.PrintLast Go.Proofs.YtlccpkggdmngaaaW.PrintMore
set_option linter.unusedSimpArgs false
set_option linter.unusedVariables false
def mag (v : Int) : Int := mx v (wrap64 (-v))
theorem mag_zero {v : Int} (h : -8000000 ≤ v ∧ v ≤ 8000000) : mag v = 0 ↔ v = 0 := by
  unfold mag mx
  rw [wrap64_id (by omega) (by omega)]
  split <;> omega
/-- The cross of three corners. -/
def crs (l : List Pt) (a b c : Nat) : Int := crossI (pt l a).f0 (pt l a).f1 (pt l b).f0 (pt l b).f1 (pt l c).f0 (pt l c).f1
theorem crs_bound {l : List Pt} (hP : Poly l) (a b c : Nat) : -8000000 ≤ crs l a b c ∧ crs l a b c ≤ 8000000 := by
  have hn := hP.n3
  have s : ∀ k, smp (pt l k) := fun k => okp_smp (hP.okp _ (pt_mem l k (by omega)))
  exact crossI_bound (s _).1 (s _).2 (s _).1 (s _).2 (s _).1 (s _).2
/-- A triple of corners in order. -/
structure Tri3 (n : Nat) (t : List Int) (a b c : Nat) : Prop where
  len : t.length = 3
  e0 : rd t 0 = (a : Int)
  e1 : rd t 1 = (b : Int)
  e2 : rd t 2 = (c : Int)
  ab : a < b
  bc : b < c
  cn : c < n
theorem tri_or (n : Nat) (t : List Int) : (∃ a b c, Tri3 n t a b c) ∨ ¬ (t.length = 3 ∧ 0 ≤ rd t 0 ∧ rd t 0 < rd t 1 ∧ rd t 1 < rd t 2 ∧ rd t 2 < (n : Int)) := by
  by_cases h : t.length = 3 ∧ 0 ≤ rd t 0 ∧ rd t 0 < rd t 1 ∧ rd t 1 < rd t 2 ∧ rd t 2 < (n : Int)
  · obtain ⟨h1, h2, h3, h4, h5⟩ := h
    exact .inl ⟨(rd t 0).toNat, (rd t 1).toNat, (rd t 2).toNat, h1, by omega, by omega, by omega, by omega, by omega, by omega⟩
  · exact .inr h
theorem spec_area {l : List Pt} (hP : Poly l) {t : List Int} {a b c : Nat} (h : Tri3 l.length t a b c) : spec_l05Area.f l t = some (mag (crs l a b c)) := by
  have hn := hP.n3
  have s : ∀ k, smp (pt l k) := fun k => okp_smp (hP.okp _ (pt_mem l k (by omega)))
  have := h.len; have := h.ab; have := h.bc; have := h.cn
  unfold spec_l05Area.f
  rw [h.e0, h.e1, h.e2, if_pos (by omega), if_pos (by omega), if_pos (by omega), if_pos (by omega), if_pos (by omega), if_pos (by omega), if_pos (by omega), if_pos (by omega), if_pos (by omega), rd_pt l a (by omega), rd_pt l b (by omega), rd_pt l c (by omega), spec_cross_eq (s _).1 (s _).2 (s _).1 (s _).2 (s _).1 (s _).2]
  rfl
theorem impl_area {l : List Pt} (hP : Poly l) {a b c : Nat} (ha : a < l.length) (hb : b < l.length) (hc : c < l.length) : impl_cross.f (rd_T27 l (a : Int)).f0 (rd_T27 l (a : Int)).f1 (rd_T27 l (b : Int)).f0 (rd_T27 l (b : Int)).f1 (rd_T27 l (c : Int)).f0 (rd_T27 l (c : Int)).f1 = some (crs l a b c) := by
  have hn := hP.n3
  have s : ∀ k, smp (pt l k) := fun k => okp_smp (hP.okp _ (pt_mem l k (by omega)))
  rw [rd_pt l a ha, rd_pt l b hb, rd_pt l c hc, impl_cross_eq (s _).1 (s _).2 (s _).1 (s _).2 (s _).1 (s _).2]
  rfl
theorem idx_w {n a b : Nat} (hn : n ≤ 10) (ha : a < n) (hb : b < n) : wrap64 ((wrap64 ((a : Int) * (n : Int))) + (b : Int)) = ((a * n + b : Nat) : Int) := by
  have h1 := idx_lt ha hb
  have h2 : n * n ≤ 10 * 10 := Nat.mul_le_mul hn hn
  have h3 : ((a * n : Nat) : Int) = (a : Int) * (n : Int) := by push_cast; rfl
  rw [← h3, wrap64_id (x := ((a * n : Nat) : Int)) (by omega) (by omega), wrap64_id (by omega) (by omega)]
  push_cast; rfl
/-! ### A triangle -/
section
variable {l : List Pt} {L : List (List Int)} {i : Nat}
theorem spec_bad (hi : i < L.length) (hL : ¬ (L[i].length = 3 ∧ 0 ≤ rd L[i] 0 ∧ rd L[i] 0 < rd L[i] 1 ∧ rd L[i] 1 < rd L[i] 2 ∧ rd L[i] 2 < (l.length : Int))) (k : Nat) (s : Int) (cs : List Int) : spec_IsTriangulation.l0 (k + 1) l (l.length : Int) s cs L (L.length : Int) (i : Int) = some false := by
  simp only [spec_IsTriangulation.l0]
  rw [if_pos (by omega), if_pos (by omega), if_pos (by omega), rdB_at L i hi]
  by_cases h1 : (L[i].length : Int) = 3
  · rw [if_pos h1, if_pos (by omega)]
    by_cases h2 : rd L[i] 0 < 0
    · rw [if_pos h2]
    · rw [if_neg h2, if_pos (by omega)]
      by_cases h3 : rd L[i] 0 ≥ rd L[i] 1
      · rw [if_pos h3]
      · rw [if_neg h3, if_pos (by omega)]
        by_cases h4 : rd L[i] 1 ≥ rd L[i] 2
        · rw [if_pos h4]
        · rw [if_neg h4, if_pos (by omega)]
  · rw [if_neg h1]
theorem impl_bad (hi : i < L.length) (hL : ¬ (L[i].length = 3 ∧ 0 ≤ rd L[i] 0 ∧ rd L[i] 0 < rd L[i] 1 ∧ rd L[i] 1 < rd L[i] 2 ∧ rd L[i] 2 < (l.length : Int))) (k : Nat) (s : Int) (C : Cn) : impl_IsTriangulation.l0 (k + 2) l (l.length : Int) s C L (L.length : Int) (i : Int) = some false := by
  have hj : ∀ (x6 : Int) (x7 : Cn) (x9 : List Int) (x29 : List (List Int)) (x30 x31 : Int), impl_IsTriangulation.j2 (k + 1) l (l.length : Int) x6 x7 x9 x29 x30 x31 true = some false := fun _ _ _ _ _ _ => by
    simp only [impl_IsTriangulation.j2]; rfl
  rw [show k + 2 = (k + 1) + 1 from rfl]
  unfold impl_IsTriangulation.l0
  rw [if_pos (by omega), if_pos (by omega), if_pos (by omega), rdB_at L i hi]
  by_cases h1 : (L[i].length : Int) = 3
  · rw [if_pos h1, if_pos (by omega)]
    by_cases h2 : rd L[i] 0 < 0
    · rw [if_pos h2, hj]
    · rw [if_neg h2, if_pos (by omega)]
      by_cases h3 : rd L[i] 0 ≥ rd L[i] 1
      · rw [if_pos h3, hj]
      · rw [if_neg h3, if_pos (by omega)]
        by_cases h4 : rd L[i] 1 ≥ rd L[i] 2
        · rw [if_pos h4, hj]
        · rw [if_neg h4, show decide (rd L[i] 2 ≥ (l.length : Int)) = true from decide_eq_true (by omega), hj]
  · rw [if_neg h1, hj]
theorem spec_flat (hP : Poly l) (hi : i < L.length) {a b c : Nat} (h : Tri3 l.length L[i] a b c) (h0 : crs l a b c = 0) (k : Nat) (s : Int) (cs : List Int) : spec_IsTriangulation.l0 (k + 1) l (l.length : Int) s cs L (L.length : Int) (i : Int) = some false := by
  have := h.len; have := h.ab; have := h.bc; have := h.cn; have := h.e0; have := h.e1; have := h.e2
  simp only [spec_IsTriangulation.l0]
  rw [if_pos (by omega), if_pos (by omega), if_pos (by omega), rdB_at L i hi, if_pos (by omega), if_pos (by omega), if_neg (by omega), if_pos (by omega), if_neg (by omega), if_pos (by omega), if_neg (by omega), if_neg (by omega), spec_area hP h, Option.bind_some, if_pos ((mag_zero (crs_bound hP a b c)).2 h0)]
theorem impl_to_j2 (hi : i < L.length) {a b c : Nat} (h : Tri3 l.length L[i] a b c) (k : Nat) (s : Int) (C : Cn) : impl_IsTriangulation.l0 (k + 1) l (l.length : Int) s C L (L.length : Int) (i : Int) = impl_IsTriangulation.j2 k l (l.length : Int) s C L[i] L (L.length : Int) (i : Int) false := by
  have := h.len; have := h.ab; have := h.bc; have := h.cn; have := h.e0; have := h.e1; have := h.e2
  conv => lhs; unfold impl_IsTriangulation.l0
  rw [if_pos (by omega), if_pos (by omega), if_pos (by omega), rdB_at L i hi, if_pos (by omega), if_pos (by omega), if_neg (by omega), if_pos (by omega), if_neg (by omega), if_pos (by omega), if_neg (by omega), show decide (rd L[i] 2 ≥ (l.length : Int)) = false from decide_eq_false (by omega)]
theorem impl_flat (hP : Poly l) (hi : i < L.length) {a b c : Nat} (h : Tri3 l.length L[i] a b c) (h0 : crs l a b c = 0) (k : Nat) (s : Int) (C : Cn) : impl_IsTriangulation.l0 (k + 2) l (l.length : Int) s C L (L.length : Int) (i : Int) = some false := by
  have := h.len; have := h.ab; have := h.bc; have := h.cn
  rw [impl_to_j2 (k := k + 1) hi h]
  conv => lhs; unfold impl_IsTriangulation.j2
  rw [if_neg (by decide), h.e0, h.e1, h.e2, if_pos (by omega), if_pos (by omega), if_pos (by omega), if_pos (by omega), if_pos (by omega), if_pos (by omega), if_pos (by omega), if_pos (by omega), if_pos (by omega), impl_area hP (by omega) (by omega) (by omega), Option.bind_some, if_pos h0]
theorem impl_next (hP : Poly l) (hi : i < L.length) (hl : L.length ≤ 1000000) {a b c : Nat} (h : Tri3 l.length L[i] a b c) (h0 : crs l a b c ≠ 0) (k : Nat) (s : Int) (C : Cn) : impl_IsTriangulation.l0 (k + 2) l (l.length : Int) s C L (L.length : Int) (i : Int) = impl_IsTriangulation.l0 k l (l.length : Int) (wrap64 (s + mag (crs l a b c))) (bump (bump (bump C (pr a b)) (pr b c)) (pr a c)) L (L.length : Int) ((i + 1 : Nat) : Int) := by
  have := h.len; have := h.ab; have := h.bc; have := h.cn; have hn := hP.n10
  rw [impl_to_j2 (k := k + 1) hi h]
  conv => lhs; unfold impl_IsTriangulation.j2
  have hk : (kOk (a : Int) (b : Int) && kOk (b : Int) (c : Int)) = true := by simp [kOk]; omega
  rw [if_neg (by decide), h.e0, h.e1, h.e2, if_pos (by omega), if_pos (by omega), if_pos (by omega), if_pos (by omega), if_pos (by omega), if_pos (by omega), if_pos (by omega), if_pos (by omega), if_pos (by omega), impl_area hP (by omega) (by omega) (by omega), Option.bind_some, if_neg h0]
  unfold impl_size.f
  rw [Option.bind_some, if_pos hk, wrap64_id (x := (i : Int) + 1) (by omega) (by omega)]
  rfl
theorem spec_next (hP : Poly l) (hi : i < L.length) (hl : L.length ≤ 1000000) {a b c : Nat} (h : Tri3 l.length L[i] a b c) (h0 : crs l a b c ≠ 0) (s : Int) {C : Cn} {cs : List Int} (hR : Rl l.length C cs) :
    ∃ cs', Rl l.length (bump (bump (bump C (pr a b)) (pr b c)) (pr a c)) cs' ∧ ∀ k, spec_IsTriangulation.l0 (k + 1) l (l.length : Int) s cs L (L.length : Int) (i : Int) = spec_IsTriangulation.l0 k l (l.length : Int) (wrap64 (s + mag (crs l a b c))) cs' L (L.length : Int) ((i + 1 : Nat) : Int) := by
  have := h.len; have := h.ab; have := h.bc; have := h.cn; have := h.e0; have := h.e1; have := h.e2; have hn := hP.n10
  refine ⟨_, ((hR.bump h.ab (by omega)).bump h.bc h.cn).bump (show a < c by omega) h.cn, fun k => ?_⟩
  have i1 := idx_lt (n := l.length) (show a < l.length by omega) (show b < l.length by omega)
  have i2 := idx_lt (n := l.length) (show b < l.length by omega) h.cn
  have i3 := idx_lt (n := l.length) (show a < l.length by omega) h.cn
  have hc := hR.1
  conv => lhs; unfold spec_IsTriangulation.l0
  rw [if_pos (by omega), if_pos (by omega), if_pos (by omega), rdB_at L i hi, if_pos (by omega), if_pos (by omega), if_neg (by omega), if_pos (by omega), if_neg (by omega), if_pos (by omega), if_neg (by omega), if_neg (by omega), spec_area hP h, Option.bind_some, if_neg (fun e => h0 ((mag_zero (crs_bound hP a b c)).1 e)), Option.bind_some]
  rw [h.e0, h.e1, h.e2, idx_w hn (show a < l.length by omega) (show b < l.length by omega), idx_w hn (show b < l.length by omega) h.cn, idx_w hn (show a < l.length by omega) h.cn]
  rw [if_pos (by omega), if_pos (by omega), Option.bind_some, if_pos (by omega), if_pos (by omega), Option.bind_some, if_pos (by omega), if_pos (by omega), wrap64_id (x := (i : Int) + 1) (by omega) (by omega)]
  simp only [Int.toNat_natCast]
  rfl
/-- All triangles. -/
theorem tri_loop (hP : Poly l) (hl : L.length ≤ 1000) (d : Nat) : ∀ (i : Nat) (s : Int) (C : Cn) (cs : List Int), i + d = L.length → Rl l.length C cs → WfC l.length (3 * i) C →
    ((∀ k, d < k → spec_IsTriangulation.l0 k l (l.length : Int) s cs L (L.length : Int) (i : Int) = some false) ∧ ∀ k, 2 * d < k → impl_IsTriangulation.l0 k l (l.length : Int) s C L (L.length : Int) (i : Int) = some false) ∨
    ∃ (s' : Int) (C' : Cn) (cs' : List Int), Rl l.length C' cs' ∧ WfC l.length 3000 C' ∧ (∀ k, spec_IsTriangulation.l0 (k + d + 1) l (l.length : Int) s cs L (L.length : Int) (i : Int) = spec_IsTriangulation.l1 k l (l.length : Int) s' cs' 0) ∧
      ∀ k, impl_IsTriangulation.l0 (k + 2 * d + 1) l (l.length : Int) s C L (L.length : Int) (i : Int) = impl_IsTriangulation.l1 k l (l.length : Int) s' C' (l.length : Int) 0 := by
  induction d with
  | zero =>
    intro i s C cs hi hR hW
    refine .inr ⟨s, C, cs, hR, hW.mono (by omega), fun k => ?_, fun k => ?_⟩
    · conv => lhs; unfold spec_IsTriangulation.l0
      rw [if_neg (by omega)]
    · conv => lhs; unfold impl_IsTriangulation.l0
      rw [if_neg (by omega)]
  | succ d ih =>
    intro i s C cs hd hR hW
    have hi : i < L.length := by omega
    rcases tri_or l.length L[i] with ⟨a, b, c, h⟩ | h
    · by_cases h0 : crs l a b c = 0
      · left
        refine ⟨fun k hk => ?_, fun k hk => ?_⟩
        · obtain ⟨k, rfl⟩ : ∃ m, k = m + 1 := ⟨k - 1, by omega⟩
          exact spec_flat hP hi h h0 k s cs
        · obtain ⟨k, rfl⟩ : ∃ m, k = m + 2 := ⟨k - 2, by omega⟩
          exact impl_flat hP hi h h0 k s C
      · obtain ⟨cs', hR', hs⟩ := spec_next hP hi (by omega) h h0 s hR
        have hm := fun k => impl_next hP hi (by omega) h h0 k s C
        have hab := h.ab; have hbc := h.bc; have hcn := h.cn
        have hW' : WfC l.length (3 * (i + 1)) (bump (bump (bump C (pr a b)) (pr b c)) (pr a c)) := (((hW.bump (by omega) hab (by omega)).bump (by omega) hbc hcn).bump (by omega) (show a < c by omega) hcn).mono (by omega)
        rcases ih (i + 1) (wrap64 (s + mag (crs l a b c))) _ cs' (by omega) hR' hW' with ⟨h1, h2⟩ | ⟨s', C', cs2, h1, h2, h3, h4⟩
        · left
          refine ⟨fun k hk => ?_, fun k hk => ?_⟩
          · obtain ⟨k, rfl⟩ : ∃ m, k = m + 1 := ⟨k - 1, by omega⟩
            rw [hs, h1 k (by omega)]
          · obtain ⟨k, rfl⟩ : ∃ m, k = m + 2 := ⟨k - 2, by omega⟩
            rw [hm, h2 k (by omega)]
        · right
          refine ⟨s', C', cs2, h1, h2, fun k => ?_, fun k => ?_⟩
          · rw [show k + (d + 1) + 1 = (k + d + 1) + 1 from by omega, hs, h3]
          · rw [show k + 2 * (d + 1) + 1 = (k + 2 * d + 1) + 2 from by omega, hm, h4]
    · left
      refine ⟨fun k hk => ?_, fun k hk => ?_⟩
      · obtain ⟨k, rfl⟩ : ∃ m, k = m + 1 := ⟨k - 1, by omega⟩
        exact spec_bad hi h k s cs
      · obtain ⟨k, rfl⟩ : ∃ m, k = m + 2 := ⟨k - 2, by omega⟩
        exact impl_bad hi h k s C
/-! ### The sides -/
theorem side_vals {n i : Nat} (hn : 3 ≤ n) (h10 : n ≤ 10) (hi : i < n) : (mn (i : Int) (Int.tmod (wrap64 ((i : Int) + 1)) (n : Int)), mx (i : Int) (Int.tmod (wrap64 ((i : Int) + 1)) (n : Int))) = sideK n i := by
  have wi : wrap64 ((i : Int) + 1) = ((i + 1 : Nat) : Int) := by rw [wrap64_id (by omega) (by omega)]; rfl
  rw [wi, tmod_at]
  unfold sideK
  by_cases h : i + 1 = n
  · rw [if_pos h, h, Nat.mod_self]
    unfold mn mx pr
    rw [Prod.mk.injEq]
    constructor
    · split <;> omega
    · split <;> omega
  · rw [if_neg h, Nat.mod_eq_of_lt (by omega)]
    unfold mn mx pr
    rw [Prod.mk.injEq]
    constructor
    · split <;> omega
    · split <;> omega
theorem side_small {n i : Nat} (hn : 3 ≤ n) (h10 : n ≤ 10) (hi : i < n) : kOk (sideK n i).1 (sideK n i).2 = true := by
  unfold sideK kOk pr
  split <;> (simp; omega)
theorem impl_l1 (hP : Poly l) {C : Cn} (s : Int) (d : Nat) : ∀ i, i + d = l.length → (∀ j, j < i → look C (sideK l.length j) = 1) →
    ((∀ j, j < l.length → look C (sideK l.length j) = 1) ∧ all2 (dropN C l.length l.length) = true → ∀ k, d + 20 < k → impl_IsTriangulation.l1 k l (l.length : Int) s (dropN C l.length i) (l.length : Int) (i : Int) = some (s == mag (twS l l.length))) ∧
    (¬ ((∀ j, j < l.length → look C (sideK l.length j) = 1) ∧ all2 (dropN C l.length l.length) = true) → ∀ k, d + 20 < k → impl_IsTriangulation.l1 k l (l.length : Int) s (dropN C l.length i) (l.length : Int) (i : Int) = some false) := by
  have h3 := hP.n3
  have h10 := hP.n10
  induction d with
  | zero =>
    intro i hi hj
    obtain rfl : i = l.length := by omega
    constructor
    · rintro ⟨_, ha⟩ k hk
      obtain ⟨k, rfl⟩ : ∃ m, k = m + 1 := ⟨k - 1, by omega⟩
      unfold impl_IsTriangulation.l1
      rw [if_neg (by omega), if_pos ha, impl_twice_eq hP k (by omega), Option.bind_some]
      rfl
    · intro hn k hk
      obtain ⟨k, rfl⟩ : ∃ m, k = m + 1 := ⟨k - 1, by omega⟩
      unfold impl_IsTriangulation.l1
      rw [if_neg (by omega), if_neg (fun ha => hn ⟨hj, ha⟩)]
  | succ d ih =>
    intro i hi hj
    have hil : i < l.length := by omega
    have step : ∀ k, impl_IsTriangulation.l1 (k + 1) l (l.length : Int) s (dropN C l.length i) (l.length : Int) (i : Int) = if look C (sideK l.length i) = 1 then impl_IsTriangulation.l1 k l (l.length : Int) s (dropN C l.length (i + 1)) (l.length : Int) ((i + 1 : Nat) : Int) else some false := fun k => by
      conv => lhs; unfold impl_IsTriangulation.l1
      have hk := side_small h3 h10 hil
      have hv := side_vals h3 h10 hil
      have hv1 := congrArg Prod.fst hv
      have hv2 := congrArg Prod.snd hv
      simp only at hv1 hv2
      rw [if_pos (by omega), if_neg (by omega), hv, hv1, hv2, if_pos hk, look_dropN h3 hil i (Nat.le_refl _), wrap64_id (x := (i : Int) + 1) (by omega) (by omega)]
      rfl
    by_cases c : look C (sideK l.length i) = 1
    · have ih' := ih (i + 1) (by omega) (fun j hj' => by
        rcases Nat.lt_succ_iff_lt_or_eq.1 hj' with h | rfl
        · exact hj j h
        · exact c)
      constructor
      · intro hg k hk
        obtain ⟨k, rfl⟩ : ∃ m, k = m + 1 := ⟨k - 1, by omega⟩
        rw [step, if_pos c]; exact ih'.1 hg k (by omega)
      · intro hg k hk
        obtain ⟨k, rfl⟩ : ∃ m, k = m + 1 := ⟨k - 1, by omega⟩
        rw [step, if_pos c]; exact ih'.2 hg k (by omega)
    · constructor
      · intro hg; exact absurd (hg.1 i hil) c
      · intro hg k hk
        obtain ⟨k, rfl⟩ : ∃ m, k = m + 1 := ⟨k - 1, by omega⟩
        rw [step, if_neg c]
/-- One pair, by the reference. -/
theorem spec_pair (hP : Poly l) {C : Cn} {cs : List Int} (hR : Rl l.length C cs) (s : Int) {a b : Nat} (hab : a < b) (hb : b < l.length) :
    (goodC l.length C a b → ∀ k, spec_IsTriangulation.l2 (k + 2) l (l.length : Int) s cs (a : Int) (b : Int) = spec_IsTriangulation.l2 k l (l.length : Int) s cs (a : Int) ((b + 1 : Nat) : Int)) ∧
    (¬ goodC l.length C a b → ∀ k, spec_IsTriangulation.l2 (k + 2) l (l.length : Int) s cs (a : Int) (b : Int) = some false) := by
  have h3 := hP.n3
  have h10 := hP.n10
  have i1 := idx_lt (n := l.length) (show a < l.length by omega) hb
  have hc := hR.1
  have wb : wrap64 ((b : Int) + 1) = ((b + 1 : Nat) : Int) := by rw [wrap64_id (by omega) (by omega)]; rfl
  have to4 : ∀ k, spec_IsTriangulation.l2 (k + 1) l (l.length : Int) s cs (a : Int) (b : Int) = spec_IsTriangulation.j4 k l (l.length : Int) s cs (a : Int) (b : Int) (look C (pr a b)) (decide (isSide l.length a b)) := fun k => by
    conv => lhs; unfold spec_IsTriangulation.l2
    rw [idx_w h10 (show a < l.length by omega) hb, if_pos (by omega), if_pos (by omega), if_pos (by omega), hR.2 a b hab hb, wrap64_id (x := (a : Int) + 1) (by omega) (by omega), wrap64_id (x := (l.length : Int) - 1) (by omega) (by omega)]
    by_cases c1 : (b : Int) = (a : Int) + 1
    · rw [if_pos c1, show decide (isSide l.length a b) = true from decide_eq_true (.inl (by omega))]
    · rw [if_neg c1]
      by_cases c2 : (a : Int) = 0
      · rw [if_pos c2]
        by_cases c3 : (b : Int) = (l.length : Int) - 1
        · rw [show decide (isSide l.length a b) = true from decide_eq_true (.inr ⟨by omega, by omega⟩), c3, beq_self_eq_true]
        · rw [show decide (isSide l.length a b) = false from decide_eq_false (by unfold isSide; omega), beq_eq_false_iff_ne.mpr c3]
      · rw [if_neg c2, show decide (isSide l.length a b) = false from decide_eq_false (by unfold isSide; omega)]
  by_cases hs : isSide l.length a b
  · have e4 : ∀ k, spec_IsTriangulation.l2 (k + 2) l (l.length : Int) s cs (a : Int) (b : Int) = if look C (pr a b) = 1 then spec_IsTriangulation.l2 k l (l.length : Int) s cs (a : Int) ((b + 1 : Nat) : Int) else some false := fun k => by
      rw [to4 (k + 1), decide_eq_true hs]
      conv => lhs; unfold spec_IsTriangulation.j4
      rw [if_pos rfl, wb]
    constructor
    · intro hg k; rw [e4, if_pos (hg.1 hs)]
    · intro hg k; rw [e4, if_neg (fun e => hg ⟨fun _ => e, fun h => absurd hs h⟩)]
  · have e4 : ∀ k, spec_IsTriangulation.l2 (k + 2) l (l.length : Int) s cs (a : Int) (b : Int) = if look C (pr a b) = 0 then spec_IsTriangulation.l2 k l (l.length : Int) s cs (a : Int) ((b + 1 : Nat) : Int) else if look C (pr a b) = 2 then spec_IsTriangulation.l2 k l (l.length : Int) s cs (a : Int) ((b + 1 : Nat) : Int) else some false := fun k => by
      rw [to4 (k + 1), decide_eq_false hs]
      conv => lhs; unfold spec_IsTriangulation.j4
      rw [if_neg (by decide), wb]
    constructor
    · intro hg k
      rw [e4]
      rcases hg.2 hs with h | h
      · rw [if_pos h]
      · rw [if_neg (by omega), if_pos h]
    · intro hg k
      rw [e4, if_neg (fun e => hg ⟨fun h => absurd h hs, fun _ => .inl e⟩), if_neg (fun e => hg ⟨fun h => absurd h hs, fun _ => .inr e⟩)]
theorem spec_l2 (hP : Poly l) {C : Cn} {cs : List Int} (hR : Rl l.length C cs) (s : Int) {a : Nat} (ha : a < l.length) (d : Nat) : ∀ b, b + d = l.length → a < b →
    ((∀ b', b ≤ b' → b' < l.length → goodC l.length C a b') → ∀ k, spec_IsTriangulation.l2 (k + 2 * d + 1) l (l.length : Int) s cs (a : Int) (b : Int) = spec_IsTriangulation.l1 k l (l.length : Int) s cs ((a + 1 : Nat) : Int)) ∧
    ((∃ b', b ≤ b' ∧ b' < l.length ∧ ¬ goodC l.length C a b') → ∀ k, 2 * d < k → spec_IsTriangulation.l2 k l (l.length : Int) s cs (a : Int) (b : Int) = some false) := by
  have h10 := hP.n10
  induction d with
  | zero =>
    intro b hb hab
    constructor
    · intro _ k
      conv => lhs; unfold spec_IsTriangulation.l2
      rw [if_neg (by omega), wrap64_id (x := (a : Int) + 1) (by omega) (by omega)]
      rfl
    · rintro ⟨b', h1, h2, _⟩; omega
  | succ d ih =>
    intro b hb hab
    have hp := spec_pair hP hR s hab (show b < l.length by omega)
    have ih' := ih (b + 1) (by omega) (by omega)
    constructor
    · intro hg k
      rw [show k + 2 * (d + 1) + 1 = (k + 2 * d + 1) + 2 from by omega, hp.1 (hg b (Nat.le_refl _) (by omega))]
      exact ih'.1 (fun b' h1 h2 => hg b' (by omega) h2) k
    · rintro ⟨b', h1, h2, h3⟩ k hk
      obtain ⟨k, rfl⟩ : ∃ m, k = m + 2 := ⟨k - 2, by omega⟩
      by_cases hgb : goodC l.length C a b
      · rw [hp.1 hgb]
        refine ih'.2 ⟨b', ?_, h2, h3⟩ k (by omega)
        rcases Nat.lt_or_eq_of_le h1 with h | rfl
        · exact h
        · exact absurd hgb h3
      · exact hp.2 hgb k
theorem spec_l1 (hP : Poly l) {C : Cn} {cs : List Int} (hR : Rl l.length C cs) (s : Int) (d : Nat) : ∀ a, a + d = l.length →
    ((∀ a' b', a ≤ a' → a' < b' → b' < l.length → goodC l.length C a' b') → ∀ k, 20 + 30 * d < k → spec_IsTriangulation.l1 k l (l.length : Int) s cs (a : Int) = some (s == mag (twS l l.length))) ∧
    ((∃ a' b', a ≤ a' ∧ a' < b' ∧ b' < l.length ∧ ¬ goodC l.length C a' b') → ∀ k, 20 + 30 * d < k → spec_IsTriangulation.l1 k l (l.length : Int) s cs (a : Int) = some false) := by
  have h3 := hP.n3
  have h10 := hP.n10
  induction d with
  | zero =>
    intro a ha
    constructor
    · intro _ k hk
      obtain ⟨k, rfl⟩ : ∃ m, k = m + 1 := ⟨k - 1, by omega⟩
      unfold spec_IsTriangulation.l1
      rw [if_neg (by omega), spec_twice_eq hP k (by omega), Option.bind_some]
      rfl
    · rintro ⟨a', b', h1, h2, h4, _⟩; omega
  | succ d ih =>
    intro a ha
    have h2 := spec_l2 hP hR s (show a < l.length by omega) d (a + 1) (by omega) (by omega)
    have ih' := ih (a + 1) (by omega)
    have step : ∀ k, spec_IsTriangulation.l1 (k + 1) l (l.length : Int) s cs (a : Int) = spec_IsTriangulation.l2 k l (l.length : Int) s cs (a : Int) ((a + 1 : Nat) : Int) := fun k => by
      conv => lhs; unfold spec_IsTriangulation.l1
      rw [if_pos (by omega), wrap64_id (x := (a : Int) + 1) (by omega) (by omega)]
      rfl
    constructor
    · intro hg k hk
      obtain ⟨k, rfl⟩ : ∃ m, k = (m + 2 * d + 1) + 1 := ⟨k - 2 * d - 2, by omega⟩
      rw [step, h2.1 (fun b' h4 h5 => hg a b' (Nat.le_refl _) (by omega) h5)]
      exact ih'.1 (fun a' b' h4 h5 h6 => hg a' b' (by omega) h5 h6) k (by omega)
    · rintro ⟨a', b', h4, h5, h6, h7⟩ k hk
      by_cases hrow : ∃ b', a + 1 ≤ b' ∧ b' < l.length ∧ ¬ goodC l.length C a b'
      · obtain ⟨k, rfl⟩ : ∃ m, k = m + 1 := ⟨k - 1, by omega⟩
        rw [step]; exact h2.2 hrow k (by omega)
      · have hrow' : ∀ b', a + 1 ≤ b' → b' < l.length → goodC l.length C a b' := fun x hx hx2 => Classical.byContradiction fun hn => hrow ⟨x, hx, hx2, hn⟩
        obtain ⟨k, rfl⟩ : ∃ m, k = (m + 2 * d + 1) + 1 := ⟨k - 2 * d - 2, by omega⟩
        rw [step, h2.1 hrow']
        refine ih'.2 ⟨a', b', ?_, h5, h6, h7⟩ k (by omega)
        rcases Nat.lt_or_eq_of_le h4 with h | rfl
        · exact h
        · exact absurd (hrow' b' h5 h6) h7
end
/-- Both functions, at any lists. -/
theorem all_IsTriangulation (l : List Pt) (hl : l.length ≤ 1048576) (L : List (List Int)) (hL : bigR L) : ∃ r : Bool, ∀ k, 1048576 < k → spec_IsTriangulation.f k l L = some r ∧ impl_IsTriangulation.f k l L = some r := by
  have hL1 := hL.1
  have w2 : wrap64 ((l.length : Int) - 2) = (l.length : Int) - 2 := wrap64_id (by omega) (by omega)
  have sj : ∀ k, spec_IsTriangulation.j0 (k + 1) l L true = some false := fun k => by simp [spec_IsTriangulation.j0]
  have mj : ∀ k, impl_IsTriangulation.j0 (k + 1) l L true = some false := fun k => by simp [impl_IsTriangulation.j0]
  by_cases hok : impl_PolygonOk.ok l = true
  · have hP := (impl_ok_iff l).1 hok
    have h3 := hP.n3
    have h10 := hP.n10
    have es : ∀ k, 500 < k → spec_IsTriangulation.f k l L = spec_IsTriangulation.j0 k l L ((L.length : Int) != (l.length : Int) - 2) := fun k hk => by
      unfold spec_IsTriangulation.f
      rw [spec_PolygonOk_eq l (by omega) k hk, Option.bind_some, if_pos hok, w2]
    have em : ∀ k, impl_IsTriangulation.f k l L = impl_IsTriangulation.j0 k l L ((L.length : Int) != (l.length : Int) - 2) := fun k => by
      unfold impl_IsTriangulation.f
      rw [impl_PolygonOk_some, Option.bind_some, if_pos hok, w2]
    by_cases c : (L.length : Int) = (l.length : Int) - 2
    · have cb : ((L.length : Int) != (l.length : Int) - 2) = false := bne_eq_false_iff_eq.mpr c
      have hn2 : l.length * l.length ≤ 10 * 10 := Nat.mul_le_mul h10 h10
      have wn : wrap64 ((l.length : Int) * (l.length : Int)) = ((l.length * l.length : Nat) : Int) := by
        have h5 : ((l.length * l.length : Nat) : Int) = (l.length : Int) * (l.length : Int) := by push_cast; rfl
        rw [← h5]; exact wrap64_id (by omega) (by omega)
      have es' : ∀ k, spec_IsTriangulation.j0 (k + 1) l L false = spec_IsTriangulation.l0 k l (l.length : Int) 0 (List.replicate (l.length * l.length) 0) L (L.length : Int) ((0 : Nat) : Int) := fun k => by
        rw [spec_IsTriangulation.j0, if_neg (by decide), wn, if_pos (by omega), Int.toNat_natCast, if_pos (by omega)]
        rfl
      have em' : ∀ k, impl_IsTriangulation.j0 (k + 1) l L false = impl_IsTriangulation.l0 k l (l.length : Int) 0 [] L (L.length : Int) ((0 : Nat) : Int) := fun k => by
        rw [impl_IsTriangulation.j0, if_neg (by decide)]
        rfl
      rcases tri_loop (L := L) hP (by omega) L.length 0 0 [] (List.replicate (l.length * l.length) 0) (by omega) (Rl.start _) (WfC.nil _ _) with ⟨h1, h2⟩ | ⟨s', C', cs', h1, h2, h4, h5⟩
      · refine ⟨false, fun k hk => ?_⟩
        obtain ⟨k, rfl⟩ : ∃ m, k = m + 1 := ⟨k - 1, by omega⟩
        rw [es _ (by omega), em, cb, es', em']
        exact ⟨h1 k (by omega), h2 k (by omega)⟩
      · have hs := spec_l1 hP h1 s' l.length 0 (by omega)
        have hm := impl_l1 hP (C := C') s' l.length 0 (by omega) (fun j hj => by omega)
        have hiff := sides_iff h2 h3
        by_cases hg : ∀ a b, a < b → b < l.length → goodC l.length C' a b
        · refine ⟨s' == mag (twS l l.length), fun k hk => ?_⟩
          rw [es _ (by omega), em, cb]
          constructor
          · obtain ⟨k, rfl⟩ : ∃ m, k = (m + L.length + 1) + 1 := ⟨k - L.length - 2, by omega⟩
            rw [es', h4]
            exact hs.1 (fun a' b' _ h6 h7 => hg a' b' h6 h7) k (by omega)
          · obtain ⟨k, rfl⟩ : ∃ m, k = (m + 2 * L.length + 1) + 1 := ⟨k - 2 * L.length - 2, by omega⟩
            rw [em', h5]
            exact hm.1 (hiff.2 hg) k (by omega)
        · refine ⟨false, fun k hk => ?_⟩
          have hex : ∃ a' b', 0 ≤ a' ∧ a' < b' ∧ b' < l.length ∧ ¬ goodC l.length C' a' b' := Classical.byContradiction fun hn => hg fun a b hab hb => Classical.byContradiction fun hng => hn ⟨a, b, by omega, hab, hb, hng⟩
          rw [es _ (by omega), em, cb]
          constructor
          · obtain ⟨k, rfl⟩ : ∃ m, k = (m + L.length + 1) + 1 := ⟨k - L.length - 2, by omega⟩
            rw [es', h4]
            exact hs.2 hex k (by omega)
          · obtain ⟨k, rfl⟩ : ∃ m, k = (m + 2 * L.length + 1) + 1 := ⟨k - 2 * L.length - 2, by omega⟩
            rw [em', h5]
            exact hm.2 (fun h => hg (hiff.1 h)) k (by omega)
    · refine ⟨false, fun k hk => ?_⟩
      obtain ⟨k, rfl⟩ : ∃ m, k = m + 1 := ⟨k - 1, by omega⟩
      rw [es _ (by omega), em, show ((L.length : Int) != (l.length : Int) - 2) = true from bne_iff_ne.mpr c]
      exact ⟨sj k, mj k⟩
  · refine ⟨false, fun k hk => ?_⟩
    obtain ⟨k, rfl⟩ : ∃ m, k = m + 1 := ⟨k - 1, by omega⟩
    unfold spec_IsTriangulation.f impl_IsTriangulation.f
    rw [spec_PolygonOk_eq l (by omega) (k + 1) (by omega), impl_PolygonOk_some, Option.bind_some, Option.bind_some, if_neg hok, if_neg hok]
    exact ⟨sj k, mj k⟩
end Go.Proofs.Ytlccpkggdmngaaa.G
