/- ParseInt: the model's reading and the library's Atoi with the test of Itoa answer alike. By this session. -/
import Derived.Test.YtbcndlfnmhmigaaDoorPureFnExactFormatInt
import Derived.Test.YtbcndlfnmhmigaaDoorF8
import Derived.Test.YtbcndlfnmhmigaaDoorPpI
import Derived.Lib.Strings
import Derived.Lib.ItoaMem
namespace Go.Proofs.YtbcndlfnmhmigaaDoor.Pure
open Go.RowKit Go.Proofs.YtbcndlfnmhmigaaDoor.G Go.Proofs.YtbcndlfnmhmigaaDoorW.PrintWords Go.Proofs.YtbcndlfnmhmigaaDoorW.PrintLast Go.Proofs.YtbcndlfnmhmigaaDoorW.PrintMore
set_option linter.unusedVariables false
theorem up {α : Type} {f : Nat → Option α} (m : ∀ k, LeO (f k) (f (k + 1))) {r : α} {k0 : Nat} (h : f k0 = some r) : ∀ k, k0 ≤ k → f k = some r := by
  intro k hk
  induction k with
  | zero => obtain rfl : k0 = 0 := by omega
            exact h
  | succ k ih =>
    by_cases e : k0 = k + 1
    · subst e; exact h
    · exact m k r (ih (by omega))
theorem dec_digits : ∀ (m u : Nat), u ≤ m → ∀ c ∈ Lib.decDigits u, 48 ≤ c.toNat ∧ c.toNat ≤ 57 := by
  intro m
  induction m with
  | zero => intro u hu c hc; obtain rfl : u = 0 := by omega
            rw [Lib.decDigits, dif_pos (by omega)] at hc; simp at hc; subst hc; decide
  | succ m ih =>
    intro u hu c hc
    rw [Lib.decDigits] at hc
    have one : ∀ v : Nat, v < 10 → 48 ≤ (UInt8.ofNat (48 + v)).toNat ∧ (UInt8.ofNat (48 + v)).toNat ≤ 57 := by
      intro v hv
      have e : (UInt8.ofNat (48 + v)).toNat = 48 + v := by simp; omega
      omega
    split at hc
    · rename_i h
      rw [List.mem_singleton] at hc; subst hc; exact one u h
    · rename_i h
      rw [List.mem_append] at hc
      rcases hc with hc | hc
      · exact ih (u / 10) (by omega) c hc
      · rw [List.mem_singleton] at hc; subst hc; exact one (u % 10) (by omega)
theorem dec_ne (u : Nat) : Lib.decDigits u ≠ [] := by
  rw [Lib.decDigits]; split <;> simp
/-- What the library reads off digits. -/
theorem uint_dec : ∀ (m u : Nat), u ≤ m → u < 18446744073709551616 → ∀ r, Lib.parseUint10 0 (Lib.decDigits u ++ r) = Lib.parseUint10 u r := by
  intro m
  induction m with
  | zero => intro u hu hb r; obtain rfl : u = 0 := by omega
            rw [Lib.decDigits, dif_pos (by omega)]; rfl
  | succ m ih =>
    intro u hu hb r
    have one : ∀ v : Nat, v < 10 → (UInt8.ofNat (48 + v)).toNat = 48 + v := by intro v hv; simp; omega
    by_cases h : u < 10
    · rw [Lib.decDigits, dif_pos h]
      show Lib.parseUint10 0 (UInt8.ofNat (48 + u) :: r) = _
      rw [Lib.parseUint10, one u h, if_pos (by omega), if_neg (by omega), if_neg (by omega)]
      congr 1; omega
    · rw [Lib.decDigits, dif_neg h, List.append_assoc, ih (u / 10) (by omega) (by omega)]
      show Lib.parseUint10 (u / 10) (UInt8.ofNat (48 + u % 10) :: r) = _
      rw [Lib.parseUint10, one (u % 10) (by omega), if_pos (by omega), if_neg (by omega), if_neg (by omega)]
      congr 1; omega
theorem mag_dec (u : Nat) (hb : u < 18446744073709551616) : Lib.parseMag (Lib.decDigits u) = .ok u := by
  unfold Lib.parseMag
  rw [if_neg (dec_ne u)]
  have := uint_dec u u (Nat.le_refl _) hb []
  rw [List.append_nil] at this
  rw [this]; rfl
theorem atoi_itoa (v : Int) (h0 : -9223372036854775808 ≤ v) (h1 : v ≤ 9223372036854775807) : Lib.atoiAll (Lib.itoa v) = .ok v := by
  unfold Lib.itoa
  by_cases h : v < 0
  · rw [if_pos h, Lib.atoiAll_minus, mag_dec _ (by omega)]
    show (if 9223372036854775808 < v.natAbs then Lib.NumEnd.range else .ok (-(v.natAbs : Int))) = .ok v
    rw [if_neg (by omega)]
    congr 1; omega
  · rw [if_neg h]
    obtain ⟨c, r, e⟩ : ∃ c r, Lib.decDigits v.toNat = c :: r := by
      cases e : Lib.decDigits v.toNat with
      | nil => exact absurd e (dec_ne _)
      | cons c r => exact ⟨c, r, rfl⟩
    have hc := dec_digits v.toNat v.toNat (Nat.le_refl _) c (by rw [e]; simp)
    rw [e, Lib.atoiAll_plain c r (by omega) (by omega), ← e, mag_dec _ (by omega)]
    show (if 9223372036854775808 ≤ v.toNat then Lib.NumEnd.range else .ok (v.toNat : Int)) = .ok v
    rw [if_neg (by omega)]
    congr 1; omega
theorem size_list (s : ByteArray) : s.size = s.data.toList.length := (Array.length_toList).symm
theorem bt_list (s : ByteArray) (i : Nat) (c : UInt8) (h : s.data.toList[i]? = some c) : bt s (i : Int) = (c.toNat : Int) := by
  obtain ⟨hl, hg⟩ := List.getElem?_eq_some_iff.mp h
  have hs : i < s.size := by rw [size_list]; exact hl
  unfold bt
  rw [dif_pos (by simpa using hs)]
  simp only [Int.toNat_natCast]
  have : s[i] = c := by rw [← hg]; simp [ByteArray.getElem_eq_getElem_data]
  rw [this]
/-- The model's loop over digits. -/
theorem loop_dec : ∀ (m u : Nat), u ≤ m → u ≤ 9223372036854775808 → ∀ (r : List UInt8) (x0 t : ByteArray) (b : Bool) (K : Nat), t.size ≤ 9223372036854775806 → t.data.toList = Lib.decDigits u ++ r → spec_ParseInt.l0 (K + (Lib.decDigits u).length) x0 b t 0 0 = spec_ParseInt.l0 K x0 b t (-(u : Int)) ((Lib.decDigits u).length : Int) := by
  have step : ∀ (a d : Nat) (i : Nat) (x0 t : ByteArray) (b : Bool) (K : Nat), d < 10 → a * 10 + d ≤ 9223372036854775808 → t.size ≤ 9223372036854775806 → t.data.toList[i]? = some (UInt8.ofNat (48 + d)) → spec_ParseInt.l0 (K + 1) x0 b t (-(a : Int)) (i : Int) = spec_ParseInt.l0 K x0 b t (-((a * 10 + d : Nat) : Int)) ((i + 1 : Nat) : Int) := by
    intro a d i x0 t b K hd hb ht hi
    have hl : i < t.size := by
      obtain ⟨hl, _⟩ := List.getElem?_eq_some_iff.mp hi
      rw [size_list]; exact hl
    have hc : (UInt8.ofNat (48 + d)).toNat = 48 + d := by simp; omega
    have hbt : bt t (i : Int) = 48 + d := by rw [bt_list t i _ hi, hc]; omega
    have e1 : wrap64 (wrap64 (bt t (i : Int)) - 48) = d := by rw [hbt, wrap64_id (x := 48 + (d : Int)) (by omega) (by omega), wrap64_id (by omega) (by omega)]; omega
    have e2 : wrap64 (-9223372036854775808 + (d : Int)) = -((9223372036854775808 - d : Nat) : Int) := by rw [wrap64_id (by omega) (by omega)]; omega
    have e3 : Int.tdiv (-((9223372036854775808 - d : Nat) : Int)) 10 = -(((9223372036854775808 - d) / 10 : Nat) : Int) := by rw [Int.neg_tdiv]; rfl
    rw [spec_ParseInt.l0, if_pos (by omega), if_pos (by omega), e1, e2, e3, wrap64_id (x := -(((9223372036854775808 - d) / 10 : Nat) : Int)) (by omega) (by omega), if_neg (by omega),
      wrap64_id (x := -(a : Int) * 10) (by omega) (by omega), wrap64_id (x := -(a : Int) * 10 - d) (by omega) (by omega), wrap64_id (x := (i : Int) + 1) (by omega) (by omega)]
    congr 1; omega
  intro m
  induction m with
  | zero =>
    intro u hu hb r x0 t b K ht e
    obtain rfl : u = 0 := by omega
    have hd : Lib.decDigits 0 = [UInt8.ofNat (48 + 0)] := by rw [Lib.decDigits, dif_pos (by omega)]
    rw [hd] at e ⊢
    exact step 0 0 0 x0 t b K (by omega) (by omega) ht (by rw [e]; rfl)
  | succ m ih =>
    intro u hu hb r x0 t b K ht e
    by_cases h : u < 10
    · have hd : Lib.decDigits u = [UInt8.ofNat (48 + u)] := by rw [Lib.decDigits, dif_pos h]
      rw [hd] at e ⊢
      have := step 0 u 0 x0 t b K h (by omega) ht (by rw [e]; rfl)
      rw [Nat.zero_mul, Nat.zero_add] at this
      exact this
    · have hd : Lib.decDigits u = Lib.decDigits (u / 10) ++ [UInt8.ofNat (48 + u % 10)] := by rw [Lib.decDigits.eq_def u, dif_neg h]
      rw [hd, List.append_assoc] at e
      have h1 := ih (u / 10) (by omega) (by omega) _ x0 t b (K + 1) ht e
      have h2 := step (u / 10) (u % 10) (Lib.decDigits (u / 10)).length x0 t b K (by omega) (by omega) ht (by rw [e]; simp)
      rw [hd, List.length_append]
      show spec_ParseInt.l0 (K + ((Lib.decDigits (u / 10)).length + 1)) x0 b t 0 0 = spec_ParseInt.l0 K x0 b t (-(u : Int)) (((Lib.decDigits (u / 10)).length + 1 : Nat) : Int)
      rw [show K + ((Lib.decDigits (u / 10)).length + 1) = K + 1 + (Lib.decDigits (u / 10)).length by omega, h1, h2]
      congr 2; omega
/-- A row of digits is digits. -/
theorem digits_true (t : ByteArray) (hm : t.size ≤ 9223372036854775806) (h : ∀ i : Nat, i < t.size → 48 ≤ bt t (i : Int) ∧ bt t (i : Int) ≤ 57) (h0 : 0 < t.size) : ∃ k, spec_IsDigits.f k t = some true := by
  have go : ∀ (n i : Nat), i + n = t.size → ∃ k, spec_IsDigits.l0 k t (i : Int) = some true := by
    intro n
    induction n with
    | zero =>
      intro i hi
      refine ⟨1, ?_⟩
      rw [spec_IsDigits.l0, if_neg (by omega)]
      exact congrArg some (decide_eq_true (by omega))
    | succ n ih =>
      intro i hi
      obtain ⟨k, hk⟩ := ih (i + 1) (by omega)
      obtain ⟨h1, h2⟩ := h i (by omega)
      refine ⟨k + 1, ?_⟩
      have e : wrap64 ((i : Int) + 1) = ((i + 1 : Nat) : Int) := by rw [wrap64_id (by omega) (by omega)]; omega
      rw [spec_IsDigits.l0, if_pos (by omega), if_pos (by omega), if_neg (by omega), if_neg (by omega), e]
      exact hk
  exact go t.size 0 (by omega)
theorem digits_any (t : ByteArray) (hm : t.size ≤ 9223372036854775806) : ∃ k b, spec_IsDigits.f k t = some b := by
  have go : ∀ (n i : Nat), i + n = t.size → ∃ k b, spec_IsDigits.l0 k t (i : Int) = some b := by
    intro n
    induction n with
    | zero =>
      intro i hi
      refine ⟨1, decide ((t.size : Int) > 0), ?_⟩
      rw [spec_IsDigits.l0, if_neg (by omega)]
    | succ n ih =>
      intro i hi
      obtain ⟨k, b, hk⟩ := ih (i + 1) (by omega)
      refine ⟨k + 1, ?_⟩
      unfold spec_IsDigits.l0
      have e : wrap64 ((i : Int) + 1) = ((i + 1 : Nat) : Int) := by rw [wrap64_id (by omega) (by omega)]; omega
      rw [e, hk]
      repeat' split
      all_goals first | exact ⟨_, rfl⟩ | omega
  exact go t.size 0 (by omega)
theorem text_inj {a b : ByteArray} (h : a.toList = b.toList) : a = b := by
  rw [Lib.toList_data, Lib.toList_data] at h
  exact ByteArray.ext (Array.toList_inj.mp h)
theorem size_dec (u : Nat) (h : u ≤ 9223372036854775808) : (Lib.decDigits u).length ≤ 19 := len_dec u 19 (by omega) (by omega)
theorem dec_bytes (t : ByteArray) (u : Nat) (hu : u ≤ 9223372036854775808) (e : t.data.toList = Lib.decDigits u) : (∃ k, spec_IsDigits.f k t = some true) ∧ t.size ≤ 19 ∧ t.size = (Lib.decDigits u).length := by
  have hs : t.size = (Lib.decDigits u).length := by rw [← e, size_list]
  have hn := size_dec u hu
  have h1 : 0 < (Lib.decDigits u).length := List.length_pos_iff.mpr (dec_ne u)
  refine ⟨digits_true t (by omega) (fun i hi => ?_) (by omega), by omega, hs⟩
  have hg : t.data.toList[i]? = some ((Lib.decDigits u)[i]'(by omega)) := by rw [e]; exact List.getElem?_eq_getElem _
  have hd := dec_digits u u (Nat.le_refl _) ((Lib.decDigits u)[i]'(by omega)) (List.getElem_mem _)
  rw [bt_list t i _ hg]
  omega
theorem run_j1 (s t : ByteArray) (b : Bool) (u : Nat) (v : Int) (hu : u ≤ 9223372036854775808) (e : t.data.toList = Lib.decDigits u)
    (hend : ∃ k, spec_ParseInt.l0 k s b t (-(u : Int)) (t.size : Int) = some (v, true)) : ∃ k, spec_ParseInt.j1 k s b t = some (v, true) := by
  obtain ⟨⟨k1, h1⟩, hs, hl⟩ := dec_bytes t u hu e
  obtain ⟨k2, h2⟩ := hend
  have h3 : spec_ParseInt.l0 (k2 + (Lib.decDigits u).length) s b t 0 0 = some (v, true) := by
    rw [loop_dec u u (Nat.le_refl _) hu [] s t b k2 (by omega) (by rw [e, List.append_nil]), ← hl]; exact h2
  refine ⟨k1 + (k2 + (Lib.decDigits u).length) + 2, ?_⟩
  rw [spec_ParseInt.j1]
  rw [up (fun k => spec_IsDigits.mono t k) h1 _ (by omega), Option.bind_some, if_pos rfl]
  rw [spec_ParseInt.j2]
  rw [if_neg (by simp; omega)]
  have m3 := fun k => (spec_ParseInt.mono_l k).2.2.2 s b t 0 0
  exact up m3 h3 _ (by omega)
/-- The model reads back what Itoa wrote. -/
theorem spec_itoa (v : Int) (h0 : -9223372036854775808 ≤ v) (h1 : v ≤ 9223372036854775807) : ∃ k, spec_ParseInt.f k (numText v) = some (v, true) := by
  obtain ⟨kf, hf⟩ := format_ok v h0 h1
  by_cases h : v < 0
  · obtain ⟨u, rfl⟩ : ∃ u : Nat, v = -(u : Int) := ⟨v.natAbs, by omega⟩
    have e : Lib.itoa (-(u : Int)) = 45 :: Lib.decDigits u := Lib.itoa_neg u (by omega)
    have hsz : (numText (-(u : Int))).size = (Lib.decDigits u).length + 1 := by simp [numText, e, ByteArray.size]
    have hb : bt (numText (-(u : Int))) 0 = 45 := bt_list _ 0 45 (by simp [numText, e])
    have ht : ((numText (-(u : Int))).extract 1 (numText (-(u : Int))).size).data.toList = Lib.decDigits u := by
      rw [hsz]; simp [numText, e, ByteArray.data_extract]
    obtain ⟨k, hk⟩ := run_j1 (numText (-(u : Int))) _ true u (-(u : Int)) (by omega) ht ⟨kf + 1, by
      rw [spec_ParseInt.l0]
      rw [if_neg (by omega), if_pos rfl, hf, Option.bind_some]
      exact if_pos rfl⟩
    refine ⟨k + 1, ?_⟩
    unfold spec_ParseInt.f
    rw [if_pos (by omega), if_pos (by omega), hb]
    rw [spec_ParseInt.j0]
    rw [if_pos (by rfl), if_pos (by omega)]
    exact hk
  · obtain ⟨u, rfl⟩ : ∃ u : Nat, v = (u : Int) := ⟨v.toNat, by omega⟩
    have e : Lib.itoa (u : Int) = Lib.decDigits u := Lib.itoa_nonneg u
    obtain ⟨c, r, ec⟩ : ∃ c r, Lib.decDigits u = c :: r := by
      cases ec : Lib.decDigits u with
      | nil => exact absurd ec (dec_ne _)
      | cons c r => exact ⟨c, r, rfl⟩
    have hc := dec_digits u u (Nat.le_refl _) c (by rw [ec]; simp)
    have hsz : (numText (u : Int)).size = (Lib.decDigits u).length := by simp [numText, e, ByteArray.size]
    have hpos : 0 < (Lib.decDigits u).length := by rw [ec]; simp
    have hb : bt (numText (u : Int)) 0 = (c.toNat : Int) := bt_list _ 0 c (by simp [numText, e, ec])
    have ht : (numText (u : Int)).data.toList = Lib.decDigits u := by simp [numText, e]
    have en : wrap64 (-(-(u : Int))) = (u : Int) := by rw [wrap64_id (by omega) (by omega)]; omega
    obtain ⟨k, hk⟩ := run_j1 (numText (u : Int)) (numText (u : Int)) false u (u : Int) (by omega) ht ⟨kf + 1, by
      rw [spec_ParseInt.l0]
      rw [if_neg (by omega), if_neg (by simp), if_neg (by omega), en, hf, Option.bind_some]
      exact if_pos rfl⟩
    have hne : (bt (numText (u : Int)) 0 == 45) = false := by rw [hb]; simp; omega
    refine ⟨k + 1, ?_⟩
    unfold spec_ParseInt.f
    rw [if_pos (by omega), if_pos (by omega), hne]
    rw [spec_ParseInt.j0]
    rw [if_neg (by simp)]
    exact hk
def Good (s : ByteArray) (r : Int × Bool) : Prop := r = (0, false) ∨ ∃ n, r = (n, true) ∧ -9223372036854775808 ≤ n ∧ n ≤ 9223372036854775807 ∧ numText n = s
theorem wrap64_lo (x : Int) : -9223372036854775808 ≤ wrap64 x ∧ wrap64 x ≤ 9223372036854775807 := by unfold wrap64; omega
theorem loop_any (s t : ByteArray) (b : Bool) (hm : t.size ≤ 9223372036854775806) : ∀ (n i : Nat) (x : Int), i + n = t.size → -9223372036854775808 ≤ x → x ≤ 9223372036854775807 → ∃ k r, spec_ParseInt.l0 k s b t x (i : Int) = some r ∧ Good s r := by
  intro n
  induction n with
  | zero =>
    intro i x hi h0 h1
    cases b with
    | true =>
      obtain ⟨k, hk⟩ := format_ok x h0 h1
      refine ⟨k + 1, ?_⟩
      rw [spec_ParseInt.l0]
      rw [if_neg (by omega), if_pos rfl, hk, Option.bind_some]
      by_cases e : (⟨(Lib.itoa x).toArray⟩ : ByteArray).toList = s.toList
      · rw [if_pos e]; exact ⟨_, rfl, .inr ⟨x, rfl, h0, h1, text_inj e⟩⟩
      · rw [if_neg e]; exact ⟨_, rfl, .inl rfl⟩
    | false =>
      obtain ⟨h2, h3⟩ := wrap64_lo (-x)
      obtain ⟨k, hk⟩ := format_ok (wrap64 (-x)) h2 h3
      refine ⟨k + 1, ?_⟩
      rw [spec_ParseInt.l0]
      rw [if_neg (by omega), if_neg (by simp), hk, Option.bind_some]
      by_cases e0 : x = -9223372036854775808
      · rw [if_pos e0]; exact ⟨_, rfl, .inl rfl⟩
      · rw [if_neg e0]
        by_cases e : (⟨(Lib.itoa (wrap64 (-x))).toArray⟩ : ByteArray).toList = s.toList
        · rw [if_pos e]; exact ⟨_, rfl, .inr ⟨_, rfl, h2, h3, text_inj e⟩⟩
        · rw [if_neg e]; exact ⟨_, rfl, .inl rfl⟩
  | succ n ih =>
    intro i x hi h0 h1
    have e : wrap64 ((i : Int) + 1) = ((i + 1 : Nat) : Int) := by rw [wrap64_id (by omega) (by omega)]; omega
    obtain ⟨h2, h3⟩ := wrap64_lo (wrap64 (x * 10) - wrap64 (wrap64 (bt t (i : Int)) - 48))
    obtain ⟨k, r, hk, hg⟩ := ih (i + 1) _ (by omega) h2 h3
    refine ⟨k + 1, ?_⟩
    rw [spec_ParseInt.l0]
    rw [if_pos (by omega), if_pos (by omega), e, hk]
    split
    · exact ⟨_, rfl, .inl rfl⟩
    · exact ⟨_, rfl, hg⟩
theorem j1_any (s t : ByteArray) (b : Bool) (hm : t.size ≤ 9223372036854775806) : ∃ k r, spec_ParseInt.j1 k s b t = some r ∧ Good s r := by
  obtain ⟨k1, d, h1⟩ := digits_any t hm
  obtain ⟨k2, r, h2, hg⟩ := loop_any s t b hm t.size 0 0 (by omega) (by omega) (by omega)
  have m3 := fun k => (spec_ParseInt.mono_l k).2.2.2 s b t 0 0
  have h3 : ∀ x, ∃ r, spec_ParseInt.j2 (k1 + k2 + 1) s b t x = some r ∧ Good s r := by
    intro x
    rw [spec_ParseInt.j2]
    rw [up m3 h2 (k1 + k2) (by omega)]
    split
    · exact ⟨_, rfl, .inl rfl⟩
    · exact ⟨_, rfl, hg⟩
  refine ⟨k1 + k2 + 2, ?_⟩
  rw [spec_ParseInt.j1]
  rw [up (fun k => spec_IsDigits.mono t k) h1 _ (by omega), Option.bind_some]
  split
  · exact h3 _
  · exact h3 _
theorem spec_any (s : ByteArray) (hm : s.size ≤ 9223372036854775806) : ∃ k r, spec_ParseInt.f k s = some r ∧ Good s r := by
  have hj : ∀ b, 1 ≤ s.size ∨ b = false → ∃ k r, spec_ParseInt.j0 k s b = some r ∧ Good s r := by
    intro b hb
    cases b with
    | true =>
      have hs : 1 ≤ s.size := by rcases hb with h | h; exact h; cases h
      obtain ⟨k, r, h, hg⟩ := j1_any s (s.extract 1 s.size) true (by rw [ByteArray.size_extract]; omega)
      refine ⟨k + 1, r, ?_, hg⟩
      rw [spec_ParseInt.j0]
      rw [if_pos rfl, if_pos (by omega)]; exact h
    | false =>
      obtain ⟨k, r, h, hg⟩ := j1_any s s false hm
      refine ⟨k + 1, r, ?_, hg⟩
      rw [spec_ParseInt.j0]
      rw [if_neg (by simp)]; exact h
  unfold spec_ParseInt.f
  by_cases h : (s.size : Int) > 0
  · obtain ⟨k, r, hk, hg⟩ := hj (bt s 0 == 45) (.inl (by omega))
    exact ⟨k, r, by rw [if_pos h, if_pos (by omega)]; exact hk, hg⟩
  · obtain ⟨k, r, hk, hg⟩ := hj false (.inr rfl)
    exact ⟨k, r, by rw [if_neg h]; exact hk, hg⟩
theorem parsed_itoa (v : Int) (h0 : -9223372036854775808 ≤ v) (h1 : v ≤ 9223372036854775807) : parsed (numText v) = (v, true) := by
  unfold parsed
  have e : (numText v).data.toList = Lib.itoa v := by simp [numText]
  rw [e, atoi_itoa v h0 h1]
  exact if_pos rfl
theorem parse_ok (s : ByteArray) (hm : s.size ≤ 9223372036854775806) : ∃ k, spec_ParseInt.f k s = some (parsed s) := by
  obtain ⟨k, r, hk, hg⟩ := spec_any s hm
  rcases hg with rfl | ⟨n, rfl, h0, h1, e⟩
  · refine ⟨k, ?_⟩
    rw [hk]
    have hno : ∀ v, Lib.atoiAll s.data.toList = .ok v → ¬ (numText v).toList = s.toList := by
      intro v hv hq
      obtain ⟨b0, b1⟩ := Lib.atoiAll_bounds hv
      obtain ⟨k', hk'⟩ := spec_itoa v b0 b1
      rw [text_inj hq] at hk'
      have a1 := up (fun k => spec_ParseInt.mono s k) hk (k + k') (by omega)
      have a2 := up (fun k => spec_ParseInt.mono s k) hk' (k + k') (by omega)
      rw [a1] at a2
      cases a2
    unfold parsed
    cases ha : Lib.atoiAll s.data.toList
    · rename_i v
      show _ = some (if (numText v).toList = s.toList then (v, true) else (0, false))
      rw [if_neg (hno v ha)]
    · rfl
    · rfl
  · subst e
    exact ⟨k, by rw [hk, parsed_itoa n h0 h1]⟩
end Go.Proofs.YtbcndlfnmhmigaaDoor.Pure
