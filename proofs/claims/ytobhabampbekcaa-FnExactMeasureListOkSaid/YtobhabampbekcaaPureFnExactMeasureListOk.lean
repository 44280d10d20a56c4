/- The law FnExactMeasureListOk: both functions answer alike. No conditions. -/
import Derived.Test.YtobhabampbekcaaUFnExactMeasureListOk
import Derived.Test.YtobhabampbekcaaPc
import Derived.Test.YtobhabampbekcaaPk
namespace Go.Proofs.Ytobhabampbekcaa.Pure
open Go.RowKit Go.Proofs.Ytobhabampbekcaa.G Go.Proofs.YtobhabampbekcaaW.PrintWords Go.Proofs.YtobhabampbekcaaW.PrintLast Go.Proofs.YtobhabampbekcaaW.PrintMore
set_option linter.unusedSimpArgs false
set_option linter.unusedVariables false
theorem rdR (l : List (List Int)) (i : Nat) (h : i < l.length) : rd_L4 l (i : Int) = l[i] := by
  simp [rd_L4, List.getD_eq_getElem?_getD, List.getElem?_eq_getElem h]
/-! the laws' functions over rows -/
theorem sz_l0 {l : List (List Int)} (hn : l.length ≤ 1048576) (hw : ∀ x ∈ l, x.length ≤ 9223372036854775807) (d : Nat) : ∀ (k i : Nat) (t : Int), i + d = l.length → d < k → 0 ≤ t → t ≤ 1048576 →
    ∃ r, laws_szIntSS.l0 k l t (i : Int) = some r ∧ (0 ≤ r → ∀ x ∈ l.drop i, x.length ≤ 1048576) := by
  induction d with
  | zero =>
    intro k i t h hk h0 h1
    obtain ⟨k, rfl⟩ : ∃ m, k = m + 1 := ⟨k - 1, by omega⟩
    refine ⟨t, ?_, fun _ x hx => ?_⟩
    · simp only [laws_szIntSS.l0]; rw [if_neg (by omega)]
    · rw [List.drop_of_length_le (by omega)] at hx; simp at hx
  | succ d ih =>
    intro k i t h hk h0 h1
    obtain ⟨k, rfl⟩ : ∃ m, k = m + 1 := ⟨k - 1, by omega⟩
    have hi : i < l.length := by omega
    have hx := hw l[i] (List.getElem_mem hi)
    have wt : wrap64 (t - (l[i].length : Int)) = t - (l[i].length : Int) := wrap64_id (by omega) (by omega)
    simp only [laws_szIntSS.l0, laws_szIntS.f]
    rw [if_pos (by omega), if_pos (by omega), rdR l i hi, wt, wrap64_id (x := (i : Int) + 1) (by omega) (by omega)]
    by_cases c : t - (l[i].length : Int) < 0
    · rw [if_pos c, Option.bind_some, if_pos (by omega)]
      exact ⟨-1, rfl, fun h => by omega⟩
    · rw [if_neg c, Option.bind_some, if_neg c]
      obtain ⟨r, e, hr⟩ := ih k (i + 1) (t - (l[i].length : Int)) (by omega) (by omega) (by omega) (by omega)
      push_cast at e
      refine ⟨r, e, fun h x hx => ?_⟩
      rw [List.drop_eq_getElem_cons hi] at hx
      rcases List.mem_cons.1 hx with g | g
      · subst g; omega
      · exact hr h x g
theorem sz_eq {l : List (List Int)} (hl : l.length ≤ 9223372036854775807) (hw : ∀ x ∈ l, x.length ≤ 9223372036854775807) (k : Nat) (hk : 1048576 < k) :
    ∃ r, laws_szIntSS.f k l 1048576 = some r ∧ (0 ≤ r → l.length ≤ 1048576 ∧ ∀ x ∈ l, x.length ≤ 1048576) := by
  have wt : wrap64 (1048576 - (l.length : Int)) = 1048576 - (l.length : Int) := wrap64_id (by omega) (by omega)
  unfold laws_szIntSS.f
  rw [wt]
  by_cases c : 1048576 - (l.length : Int) < 0
  · rw [if_pos c]; exact ⟨-1, rfl, fun h => by omega⟩
  · rw [if_neg c]
    obtain ⟨r, e, hr⟩ := sz_l0 (l := l) (by omega) hw l.length k 0 (1048576 - (l.length : Int)) (by omega) (by omega) (by omega) (by omega)
    exact ⟨r, e, fun h => ⟨by omega, fun x hx => hr h x (by simpa using hx)⟩⟩
theorem toS_l0 {l : List Int} (hn : l.length ≤ 1048576) (d : Nat) : ∀ (k i : Nat), i + d = l.length → d < k → laws_toIntS.l0 k l (l.take i ++ List.replicate d 0) (i : Int) = some l := by
  induction d with
  | zero =>
    intro k i h hk
    obtain ⟨k, rfl⟩ : ∃ m, k = m + 1 := ⟨k - 1, by omega⟩
    have e : i = l.length := by omega
    subst e
    simp only [laws_toIntS.l0]; rw [if_neg (by omega)]; simp
  | succ d ih =>
    intro k i h hk
    obtain ⟨k, rfl⟩ : ∃ m, k = m + 1 := ⟨k - 1, by omega⟩
    have hi : i < l.length := by omega
    have hlen : (l.take i ++ List.replicate (d + 1) (0 : Int)).length = l.length := by simp; omega
    simp only [laws_toIntS.l0]
    rw [if_pos (by omega), if_pos (by omega), if_pos (by rw [hlen]; omega), rdI_at l i hi, wrap64_id (by omega) (by omega), Int.toNat_natCast]
    have e1 : (l.take i ++ List.replicate (d + 1) (0 : Int)).set i l[i] = l.take (i + 1) ++ List.replicate d 0 := by
      have ht : (l.take i).length = i := by rw [List.length_take]; omega
      rw [List.set_append_right _ _ (by omega), ht, Nat.sub_self, List.replicate_succ, List.set_cons_zero, List.take_succ_eq_append_getElem hi, List.append_assoc]
      rfl
    rw [e1]
    have := ih k (i + 1) (by omega) (by omega)
    push_cast at this
    exact this
theorem toS_eq {l : List Int} (hn : l.length ≤ 1048576) (k : Nat) (hk : l.length < k) : laws_toIntS.f k l = some l := by
  unfold laws_toIntS.f
  rw [if_pos (by omega), if_pos (by rw [Int.toNat_natCast]; omega), Int.toNat_natCast]
  have := toS_l0 hn l.length k 0 (by omega) hk
  simpa using this
theorem toSS_l0 {l : List (List Int)} (hn : l.length ≤ 1048576) (hw : ∀ x ∈ l, x.length ≤ 1048576) (d : Nat) : ∀ (k i : Nat), i + d = l.length → 1048576 + d < k → laws_toIntSS.l0 k l (l.take i ++ List.replicate d []) (i : Int) = some l := by
  induction d with
  | zero =>
    intro k i h hk
    obtain ⟨k, rfl⟩ : ∃ m, k = m + 1 := ⟨k - 1, by omega⟩
    have e : i = l.length := by omega
    subst e
    simp only [laws_toIntSS.l0]; rw [if_neg (by omega)]; simp
  | succ d ih =>
    intro k i h hk
    obtain ⟨k, rfl⟩ : ∃ m, k = m + 1 := ⟨k - 1, by omega⟩
    have hi : i < l.length := by omega
    have hx := hw l[i] (List.getElem_mem hi)
    have hlen : (l.take i ++ List.replicate (d + 1) ([] : List Int)).length = l.length := by simp; omega
    simp only [laws_toIntSS.l0]
    rw [if_pos (by omega), if_pos (by omega), rdR l i hi, toS_eq hx k (by omega), Option.bind_some, if_pos (by rw [hlen]; omega), wrap64_id (by omega) (by omega), Int.toNat_natCast]
    have e1 : (l.take i ++ List.replicate (d + 1) ([] : List Int)).set i l[i] = l.take (i + 1) ++ List.replicate d [] := by
      have ht : (l.take i).length = i := by rw [List.length_take]; omega
      rw [List.set_append_right _ _ (by omega), ht, Nat.sub_self, List.replicate_succ, List.set_cons_zero, List.take_succ_eq_append_getElem hi, List.append_assoc]
      rfl
    rw [e1]
    have := ih k (i + 1) (by omega) (by omega)
    push_cast at this
    exact this
theorem toSS_eq {l : List (List Int)} (hn : l.length ≤ 1048576) (hw : ∀ x ∈ l, x.length ≤ 1048576) (k : Nat) (hk : 3000000 < k) : laws_toIntSS.f k l = some l := by
  unfold laws_toIntSS.f
  rw [if_pos (by omega), if_pos (by rw [Int.toNat_natCast]; omega), Int.toNat_natCast]
  have := toSS_l0 hn hw l.length k 0 (by omega) (by omega)
  simpa using this
theorem eqSS_l0 {l : List (List Int)} (hn : l.length ≤ 1048576) (hw : ∀ x ∈ l, x.length ≤ 1048576) (d : Nat) : ∀ (k i : Nat), i + d = l.length → 1048576 + d < k → laws_eqIntSS.l0 k l l (i : Int) = some true := by
  induction d with
  | zero =>
    intro k i h hk
    obtain ⟨k, rfl⟩ : ∃ m, k = m + 1 := ⟨k - 1, by omega⟩
    simp only [laws_eqIntSS.l0]; rw [if_neg (by omega)]
  | succ d ih =>
    intro k i h hk
    obtain ⟨k, rfl⟩ : ∃ m, k = m + 1 := ⟨k - 1, by omega⟩
    have hi : i < l.length := by omega
    have hx := hw l[i] (List.getElem_mem hi)
    simp only [laws_eqIntSS.l0]
    rw [if_pos (by omega), if_pos (by omega), if_pos (by omega), rdR l i hi, eqIntS_eq _ _ (by omega) k (by omega), Option.bind_some, if_pos (by simp), wrap64_id (by omega) (by omega)]
    have := ih k (i + 1) (by omega) (by omega)
    push_cast at this
    exact this
/-! both functions -/
def dirB (x y : Int) : Bool := decide (y ≥ 0) && (decide (Int.gcd x y = 1) && (decide (y > 0) || decide (x = 1)))
def isB (x y : Int) : Bool := decide (-1000 ≤ x) && (decide (x ≤ 1000) && (decide (-1000 ≤ y) && (decide (y ≤ 1000) && dirB x y)))
def in2 (z : Int) : Bool := decide (-1000 ≤ z) && (decide (z ≤ 1000) && !(z == 0))
def okR (m : List Int) : Bool := decide (m.length = 3) && (isB (rd m 0) (rd m 1) && in2 (rd m 2))
def befR (a b : List Int) : Bool := decide (rd a 1 < rd b 1) || (decide (rd a 1 = rd b 1) && decide (rd a 0 < rd b 0))
def chk (l : List (List Int)) : Nat → Nat → Bool
  | 0, _ => true
  | d + 1, i => okR (rd_L4 l (i : Int)) && ((decide (i = 0) || befR (rd_L4 l ((i : Int) - 1)) (rd_L4 l (i : Int))) && chk l d (i + 1))
theorem spec_Is_eq (x y : Int) (k : Nat) (hk : 2000 < k) : spec_l07Is.f k x y = some (isB x y) := by
  unfold spec_l07Is.f spec_l01In.f isB dirB
  by_cases a1 : -1000 ≤ x
  · by_cases a2 : x ≤ 1000
    · by_cases a3 : 0 ≤ y
      · by_cases a4 : y ≤ 1000
        · have g : spec_l02Gcd.f k x y = some (Int.gcd x y : Int) := spec_gcd_eq ⟨a1, a2⟩ ⟨by omega, a4⟩ k (by omega)
          have a5 : -1000 ≤ y := by omega
          have e : (((Int.gcd x y : Nat) : Int) == 1) = decide (Int.gcd x y = 1) := by
            rw [Bool.eq_iff_iff, beq_iff_eq, decide_eq_true_eq]; omega
          rw [g]
          by_cases h1 : y > 0
          · simp [a1, a2, a3, a4, a5, h1, e]
          · by_cases h2 : x = 1
            · simp [a1, a2, a3, a4, a5, h1, h2, e] <;> simp_all
            · simp [a1, a2, a3, a4, a5, h1, h2]
        · simp [a1, a2, a3, a4]
      · simp [a1, a2, a3]
    · simp [a1, a2]
  · simp [a1]
theorem impl_Is_eq {x y : Int} (k : Nat) (hk : 2000 < k) (hx : -1000 ≤ x ∧ x ≤ 1000) (hy : -1000 ≤ y ∧ y ≤ 1000) : impl_isDirection.f k x y = some (dirB x y) := by
  have g : impl_common.f k x y = some (Int.gcd x y : Int) := common_eq hx hy k (by omega)
  unfold impl_isDirection.f dirB
  rw [g, Option.bind_some]
  by_cases h1 : Int.gcd x y = 1
  · rw [if_pos (by omega)]
    by_cases h2 : y > 0
    · have : y ≥ 0 := by omega
      simp [h1, h2, this]
    · by_cases h3 : y = 0
      · subst h3; simp [h1]
        rw [Bool.eq_iff_iff]; simp
      · have : ¬ y ≥ 0 := by omega
        simp [h1, h2, h3, this]
  · rw [if_neg (by omega)]
    simp [h1]
theorem okR_parts {m : List Int} (h : okR m = true) : m.length = 3 ∧ (-1000 ≤ rd m 0 ∧ rd m 0 ≤ 1000) ∧ (-1000 ≤ rd m 1 ∧ rd m 1 ≤ 1000) := by
  unfold okR isB at h
  simp only [Bool.and_eq_true, decide_eq_true_eq] at h
  exact ⟨h.1, ⟨h.2.1.1, h.2.1.2.1⟩, ⟨h.2.1.2.2.1, h.2.1.2.2.2.1⟩⟩
theorem spec_step {l : List (List Int)} {i : Nat} (hi : i < l.length) (hn : l.length ≤ 1048576) (k : Nat) (hk : 2000 < k) :
    spec_MeasureListOk.l0 (k + 1) l l (l.length : Int) (i : Int) = spec_MeasureListOk.j1 k l (i : Int) (rd_L4 l (i : Int)) l (l.length : Int) (i : Int) (!okR (rd_L4 l (i : Int))) := by
  simp only [spec_MeasureListOk.l0]
  rw [if_pos (by omega), if_pos (by omega), if_pos (by omega)]
  generalize rd_L4 l (i : Int) = m
  unfold okR
  by_cases h3 : m.length = 3
  · rw [if_pos (by omega), if_pos (by omega), if_pos (by omega), spec_Is_eq _ _ k hk, Option.bind_some]
    by_cases hB : isB (rd m 0) (rd m 1) = true
    · rw [if_pos hB, if_pos (by omega)]
      unfold spec_l01In.f in2
      by_cases c1 : -1000 ≤ rd m 2
      · have c1' : rd m 2 ≥ -1000 := c1
        by_cases c2 : rd m 2 ≤ 1000
        · simp [h3, hB, c1, c1', c2]
        · simp [h3, hB, c1, c1', c2]
      · have c1' : ¬ rd m 2 ≥ -1000 := c1
        simp [h3, hB, c1, c1']
    · rw [if_neg hB]; simp [h3, hB]
  · rw [if_neg (by omega)]; simp [h3]
theorem impl_step {l : List (List Int)} {i : Nat} (hi : i < l.length) (hn : l.length ≤ 1048576) (k : Nat) (hk : 2000 < k) :
    impl_MeasureListOk.l0 (k + 1) l l (l.length : Int) (i : Int) = impl_MeasureListOk.j1 k l (i : Int) (rd_L4 l (i : Int)) l (l.length : Int) (i : Int) (!okR (rd_L4 l (i : Int))) := by
  simp only [impl_MeasureListOk.l0]
  rw [if_pos (by omega), if_pos (by omega), if_pos (by omega)]
  generalize rd_L4 l (i : Int) = m
  have win : ∀ z : Int, impl_within.f z (-1000) 1000 = some (decide (-1000 ≤ z) && decide (z ≤ 1000)) := by
    intro z
    unfold impl_within.f
    by_cases c1 : -1000 ≤ z
    · have c1' : z ≥ -1000 := c1
      by_cases c2 : z ≤ 1000 <;> simp [c1, c1', c2]
    · have c1' : ¬ z ≥ -1000 := c1
      simp [c1, c1']
  unfold okR isB
  by_cases h3 : m.length = 3
  · rw [if_pos (by omega), if_pos (by omega), win, Option.bind_some]
    by_cases a1 : -1000 ≤ rd m 0
    · by_cases a2 : rd m 0 ≤ 1000
      · rw [if_pos (by simp [a1, a2]), if_pos (by omega), win, Option.bind_some]
        by_cases a3 : -1000 ≤ rd m 1
        · by_cases a4 : rd m 1 ≤ 1000
          · rw [if_pos (by simp [a3, a4]), impl_Is_eq k hk ⟨a1, a2⟩ ⟨a3, a4⟩, Option.bind_some]
            by_cases hB : dirB (rd m 0) (rd m 1) = true
            · rw [if_pos hB, if_pos (by omega), win, Option.bind_some]
              unfold in2
              by_cases c1 : -1000 ≤ rd m 2
              · by_cases c2 : rd m 2 ≤ 1000
                · simp [h3, hB, a1, a2, a3, a4, c1, c2]
                · simp [h3, hB, a1, a2, a3, a4, c1, c2]
              · simp [h3, hB, a1, a2, a3, a4, c1]
            · rw [if_neg hB]; simp [h3, a1, a2, a3, a4, hB]
          · rw [if_neg (by simp [a4])]; simp [h3, a1, a2, a3, a4]
        · rw [if_neg (by simp [a3])]; simp [h3, a1, a2, a3]
      · rw [if_neg (by simp [a2])]; simp [h3, a1, a2]
    · rw [if_neg (by simp [a1])]; simp [h3, a1]
  · rw [if_neg (by omega)]; simp [h3]
theorem spec_bef {a b : List Int} (ha : a.length = 3) (hb : b.length = 3) : spec_l07Before.f a b = some (befR a b) := by
  unfold spec_l07Before.f befR
  rw [if_pos (by omega), if_pos (by omega)]
  by_cases c : rd a 1 < rd b 1
  · rw [if_pos c]; simp [c]
  · rw [if_neg c]
    by_cases e : rd a 1 = rd b 1
    · rw [if_pos e, if_pos (by omega), if_pos (by omega)]; simp [e]
    · rw [if_neg e]; simp [c, e]
theorem impl_bef {a b : List Int} (ha : okR a = true) (hb : okR b = true) : ∃ t, impl_compareMeasures.f a b = some t ∧ (t ≥ 0 ↔ befR a b = false) := by
  obtain ⟨la, a0, a1⟩ := okR_parts ha
  obtain ⟨lb, b0, b1⟩ := okR_parts hb
  unfold impl_compareMeasures.f befR
  rw [if_pos (by omega), if_pos (by omega)]
  by_cases e : rd a 1 = rd b 1
  · rw [if_pos e, if_pos (by omega), if_pos (by omega)]
    refine ⟨_, rfl, ?_⟩
    rw [wrap64_id (by omega) (by omega)]
    simp [e] <;> omega
  · rw [if_neg e]
    refine ⟨_, rfl, ?_⟩
    rw [wrap64_id (by omega) (by omega)]
    simp [e] <;> omega
theorem spec_all {l : List (List Int)} (hn : l.length ≤ 1048576) (d : Nat) : ∀ (k i : Nat), i + d = l.length → 2 * d + 2001 < k → (0 < i → okR (rd_L4 l ((i : Int) - 1)) = true) →
    spec_MeasureListOk.l0 k l l (l.length : Int) (i : Int) = some (chk l d i) := by
  induction d with
  | zero =>
    intro k i h hk _
    obtain ⟨k, rfl⟩ : ∃ m, k = m + 1 := ⟨k - 1, by omega⟩
    simp only [spec_MeasureListOk.l0]; rw [if_neg (by omega)]; rfl
  | succ d ih =>
    intro k i h hk hp
    obtain ⟨k, rfl⟩ : ∃ m, k = m + 2 := ⟨k - 2, by omega⟩
    have hi : i < l.length := by omega
    rw [spec_step hi hn (k + 1) (by omega)]
    simp only [chk]
    by_cases ho : okR (rd_L4 l (i : Int)) = true
    · have nx : ((i + 1 : Nat) : Int) - 1 = (i : Int) := by push_cast; omega
      have ih' := ih k (i + 1) (by omega) (by omega) (fun _ => by rw [nx]; exact ho)
      push_cast at ih'
      simp only [spec_MeasureListOk.j1, ho, Bool.not_true, Bool.true_and]
      rw [if_neg (by simp)]
      by_cases h0 : i = 0
      · rw [if_neg (by omega), wrap64_id (by omega) (by omega), ih']; simp [h0]
      · have w1 : wrap64 ((i : Int) - 1) = (i : Int) - 1 := wrap64_id (by omega) (by omega)
        rw [if_pos (by omega), w1, if_pos (by omega), if_pos (by omega), spec_bef (okR_parts (hp (by omega))).1 (okR_parts ho).1, Option.bind_some, wrap64_id (x := (i : Int) + 1) (by omega) (by omega), ih']
        by_cases c : befR (rd_L4 l ((i : Int) - 1)) (rd_L4 l (i : Int)) = true
        · rw [if_pos c]; simp [c]
        · rw [if_neg c]; simp [c, h0]
    · simp only [spec_MeasureListOk.j1]
      rw [if_pos (by simpa using ho)]; simp [ho]
theorem impl_all {l : List (List Int)} (hn : l.length ≤ 1048576) (d : Nat) : ∀ (k i : Nat), i + d = l.length → 2 * d + 2001 < k → (0 < i → okR (rd_L4 l ((i : Int) - 1)) = true) →
    impl_MeasureListOk.l0 k l l (l.length : Int) (i : Int) = some (chk l d i && decide (l.length ≤ 24)) := by
  induction d with
  | zero =>
    intro k i h hk _
    obtain ⟨k, rfl⟩ : ∃ m, k = m + 1 := ⟨k - 1, by omega⟩
    simp only [impl_MeasureListOk.l0]; rw [if_neg (by omega)]
    simp only [chk, Bool.true_and]
    congr 1; rw [decide_eq_decide]; omega
  | succ d ih =>
    intro k i h hk hp
    obtain ⟨k, rfl⟩ : ∃ m, k = m + 2 := ⟨k - 2, by omega⟩
    have hi : i < l.length := by omega
    rw [impl_step hi hn (k + 1) (by omega)]
    simp only [chk]
    by_cases ho : okR (rd_L4 l (i : Int)) = true
    · have nx : ((i + 1 : Nat) : Int) - 1 = (i : Int) := by push_cast; omega
      have ih' := ih k (i + 1) (by omega) (by omega) (fun _ => by rw [nx]; exact ho)
      push_cast at ih'
      simp only [impl_MeasureListOk.j1, ho, Bool.not_true, Bool.true_and]
      rw [if_neg (by simp)]
      by_cases h0 : i = 0
      · rw [if_neg (by omega), wrap64_id (by omega) (by omega), ih']; simp [h0]
      · have w1 : wrap64 ((i : Int) - 1) = (i : Int) - 1 := wrap64_id (by omega) (by omega)
        obtain ⟨t, et, ht⟩ := impl_bef (hp (by omega)) ho
        rw [if_pos (by omega), w1, if_pos (by omega), if_pos (by omega), et, Option.bind_some, wrap64_id (x := (i : Int) + 1) (by omega) (by omega), ih']
        by_cases c : t ≥ 0
        · rw [if_pos c]; simp [ht.1 c, h0]
        · have : befR (rd_L4 l ((i : Int) - 1)) (rd_L4 l (i : Int)) = true := by
            rcases Bool.eq_false_or_eq_true (befR (rd_L4 l ((i : Int) - 1)) (rd_L4 l (i : Int))) with q | q
            · exact q
            · exact absurd (ht.2 q) c
          rw [if_neg c]; simp [this]
    · simp only [impl_MeasureListOk.j1]
      rw [if_pos (by simpa using ho)]; simp [ho]
theorem FnExactMeasureListOk : laws_FnExactMeasureListOk.Pure := by
  intro l hl hw
  refine ⟨4000000, ?_⟩
  obtain ⟨r, e, hr⟩ := sz_eq hl hw 4000000 (by omega)
  unfold laws_FnExactMeasureListOk.f
  rw [e, Option.bind_some]
  by_cases c : r < 0
  · rw [if_pos c]
  · rw [if_neg c]
    obtain ⟨hn, hx⟩ := hr (by omega)
    have ts := toSS_eq hn hx 4000000 (by omega)
    have es : laws_eqIntSS.f 4000000 l l = some true := by
      unfold laws_eqIntSS.f
      rw [if_pos rfl]
      exact eqSS_l0 hn hx l.length 4000000 0 (by omega) (by omega)
    have sp : spec_MeasureListOk.f 4000000 l = some (chk l l.length 0 && decide (l.length ≤ 24)) := by
      unfold spec_MeasureListOk.f
      by_cases g : l.length > 24
      · have g' : ¬ l.length ≤ 24 := by omega
        rw [if_pos (by omega)]; simp [g']
      · have g' : l.length ≤ 24 := by omega
        have := spec_all hn l.length 4000000 0 (by omega) (by omega) (fun h => by omega)
        rw [show ((0 : Nat) : Int) = 0 from rfl] at this
        rw [if_neg (by omega), this]; simp [g']
    have im : impl_MeasureListOk.f 4000000 l = some (chk l l.length 0 && decide (l.length ≤ 24)) := by
      unfold impl_MeasureListOk.f
      exact impl_all hn l.length 4000000 0 (by omega) (by omega) (fun h => by omega)
    simp only [ts, sp, im, es, Option.bind_some, bne_self_eq_false, if_true]
    simp
end Go.Proofs.Ytobhabampbekcaa.Pure
