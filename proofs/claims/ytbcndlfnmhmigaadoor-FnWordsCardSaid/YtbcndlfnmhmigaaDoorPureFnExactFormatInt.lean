/- FormatInt: the model's text is the library's Itoa. By this session. -/
import Derived.Test.YtbcndlfnmhmigaaDoorF6
import Derived.Lib.ItoaNum
namespace Go.Proofs.YtbcndlfnmhmigaaDoor.Pure
open Go.RowKit Go.Proofs.YtbcndlfnmhmigaaDoor.G Go.Proofs.YtbcndlfnmhmigaaDoorW.PrintWords Go.Proofs.YtbcndlfnmhmigaaDoorW.PrintLast Go.Proofs.YtbcndlfnmhmigaaDoorW.PrintMore
theorem wrap64_id {x : Int} (h0 : -9223372036854775808 ≤ x) (h1 : x ≤ 9223372036854775807) : wrap64 x = x := by unfold wrap64; omega
theorem one_num {x : Int} {u : Nat} (h : x = 48 + u) (hu : u < 10) : strOfNums [(wrap64 x) % 256] = ⟨#[UInt8.ofNat (48 + u)]⟩ := by
  subst h
  rw [wrap64_id (by omega) (by omega)]
  have e : ((48 + (u : Int)) % 256).toNat = 48 + u := by omega
  simp [strOfNums, e]
theorem cat (a b : List UInt8) : (⟨a.toArray⟩ : ByteArray) ++ ⟨b.toArray⟩ = ⟨(a ++ b).toArray⟩ := by
  apply ByteArray.ext
  simp [ByteArray.data_append]
theorem len_dec (u n : Nat) (h : u < 10 ^ n) (hn : 1 ≤ n) : (Lib.decDigits u).length ≤ n := by
  induction n generalizing u with
  | zero => omega
  | succ n ih =>
    rw [Lib.decDigits]
    split
    · simp
    · rename_i hu
      rw [List.length_append]
      have hn1 : 1 ≤ n := by rcases n with _ | n; · omega
                             · omega
      have := ih (u / 10) (by rw [Nat.pow_succ] at h; omega) hn1
      simp; omega
theorem strOfNums_one (x : Int) : (strOfNums [x]).size = 1 := by simp [strOfNums, ByteArray.size]
/-- The digits of what is not negative, before a text. -/
theorem digits_ok : ∀ (m u : Nat), u ≤ m → (u : Int) ≤ 9223372036854775807 → ∀ (s : List UInt8), s.length + u < 9223372036854775807 → ∃ k, spec_FormatInt.l0 k (u : Int) ⟨s.toArray⟩ = some ⟨(Lib.decDigits u ++ s).toArray⟩ := by
  intro m
  induction m with
  | zero =>
    intro u hu hb s hs
    obtain rfl : u = 0 := by omega
    refine ⟨1, ?_⟩
    unfold spec_FormatInt.l0
    rw [if_neg (by omega), Option.bind_some, if_pos (by rw [strOfNums_one]; simp [ByteArray.size]; omega), one_num (u := 0) rfl (by omega), Lib.decDigits, dif_pos (by omega)]
    exact congrArg some (cat [UInt8.ofNat (48 + 0)] s)
  | succ m ih =>
    intro u hu hb s hs
    by_cases h : u < 10
    · refine ⟨1, ?_⟩
      unfold spec_FormatInt.l0
      rw [if_neg (by omega), Option.bind_some, if_pos (by rw [strOfNums_one]; simp [ByteArray.size]; omega), one_num (u := u) rfl h, Lib.decDigits, dif_pos h]
      exact congrArg some (cat [UInt8.ofNat (48 + u)] s)
    · have e1 : Int.tmod (u : Int) 10 = ((u % 10 : Nat) : Int) := rfl
      have e2 : Int.tdiv (u : Int) 10 = ((u / 10 : Nat) : Int) := rfl
      · obtain ⟨k, hk⟩ := ih (u / 10) (by omega) (by omega) (UInt8.ofNat (48 + u % 10) :: s) (by simp; omega)
        refine ⟨k + 1, ?_⟩
        unfold spec_FormatInt.l0
        rw [if_pos (by omega), Option.bind_some, if_pos (by rw [strOfNums_one]; simp [ByteArray.size]; omega), e1, e2, one_num (u := u % 10) rfl (by omega), wrap64_id (by omega) (by omega), show (⟨#[UInt8.ofNat (48 + u % 10)]⟩ : ByteArray) ++ ⟨s.toArray⟩ = ⟨(UInt8.ofNat (48 + u % 10) :: s).toArray⟩ from cat [_] s, hk, Lib.decDigits.eq_def u, dif_neg h, List.append_assoc]
        rfl
theorem neg_ok : ∀ (m u : Nat), u ≤ m → 1 ≤ u → (u : Int) ≤ 9223372036854775808 → ∃ k, spec_FormatInt.f k (-(u : Int)) = some ⟨(45 :: Lib.decDigits u).toArray⟩ := by
  intro m
  induction m with
  | zero => intro u h1 h2; omega
  | succ m ih =>
    intro u hu h1 hb
    have e1 : Int.tmod (-(u : Int)) 10 = -((u % 10 : Nat) : Int) := by rw [Int.neg_tmod]; rfl
    have e2 : Int.tdiv (-(u : Int)) 10 = -((u / 10 : Nat) : Int) := by rw [Int.neg_tdiv]; rfl
    by_cases h : u < 10
    · refine ⟨1, ?_⟩
      unfold spec_FormatInt.f
      rw [if_pos (by omega), e2, if_pos (by rw [wrap64_id (by omega) (by omega)]; omega), Option.bind_some, if_pos (by rw [strOfNums_one]; omega), one_num (u := u) (by omega) h, Lib.decDigits, dif_pos h]
      exact congrArg some (cat [45] [UInt8.ofNat (48 + u)])
    · obtain ⟨k, hk⟩ := ih (u / 10) (by omega) (by omega) (by omega)
      refine ⟨k + 1, ?_⟩
      unfold spec_FormatInt.f
      have hl : (Lib.decDigits (u / 10)).length ≤ 19 := len_dec _ 19 (by omega) (by omega)
      rw [if_pos (by omega), e2, wrap64_id (x := -((u / 10 : Nat) : Int)) (by omega) (by omega), if_neg (by omega), hk, Option.bind_some, Option.bind_some, if_pos (by rw [strOfNums_one]; simp [ByteArray.size]; omega), e1, one_num (u := u % 10) (by omega) (by omega), Lib.decDigits.eq_def u, dif_neg h]
      exact congrArg some (cat (45 :: Lib.decDigits (u / 10)) [UInt8.ofNat (48 + u % 10)])
theorem format_ok (n : Int) (h0 : -9223372036854775808 ≤ n) (h1 : n ≤ 9223372036854775807) : ∃ k, spec_FormatInt.f k n = some ⟨(Lib.itoa n).toArray⟩ := by
  unfold Lib.itoa
  by_cases h : n < 0
  · rw [if_pos h]
    obtain ⟨u, hu⟩ : ∃ u : Nat, n = -(u : Int) := ⟨n.natAbs, by omega⟩
    subst hu
    have e : (-(u : Int)).natAbs = u := by omega
    rw [e]
    exact neg_ok u u (Nat.le_refl _) (by omega) (by omega)
  · rw [if_neg h]
    obtain ⟨u, hu⟩ : ∃ u : Nat, n = (u : Int) := ⟨n.toNat, by omega⟩
    subst hu
    by_cases hb : (u : Int) < 9223372036854775807
    · obtain ⟨k, hk⟩ := digits_ok u u (Nat.le_refl _) h1 [] (by simp; omega)
      refine ⟨k + 1, ?_⟩
      unfold spec_FormatInt.f
      rw [if_neg h, show (⟨#[]⟩ : ByteArray) = ⟨([] : List UInt8).toArray⟩ from rfl, hk, List.append_nil]
      rfl
    · obtain rfl : u = 9223372036854775807 := by omega
      obtain ⟨k, hk⟩ := digits_ok 922337203685477580 922337203685477580 (Nat.le_refl _) (by omega) [UInt8.ofNat (48 + 7)] (by simp)
      refine ⟨k + 2, ?_⟩
      unfold spec_FormatInt.f
      rw [if_neg h, Lib.decDigits.eq_def, dif_neg (by simp)]
      unfold spec_FormatInt.l0
      rw [if_pos (by omega), Option.bind_some, if_pos (by rw [strOfNums_one]; simp [ByteArray.size]), show Int.tmod ((9223372036854775807 : Nat) : Int) 10 = ((7 : Nat) : Int) from rfl, show Int.tdiv ((9223372036854775807 : Nat) : Int) 10 = ((922337203685477580 : Nat) : Int) from rfl, one_num (u := 7) rfl (by omega), wrap64_id (by omega) (by omega)]
      exact hk
end Go.Proofs.YtbcndlfnmhmigaaDoor.Pure
