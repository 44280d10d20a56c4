/- The laws' functions over lists of strings: marks are told as some strings, the same each time. The bounds stand in each theorem. -/
import Derived.Test.YtbcndlfnmhmigaaPz
import Derived.Test.YtbcndlfnmhmigaaF6
import Derived.Test.YtbcndlfnmhmigaaF7
import Derived.Test.YtbcndlfnmhmigaaF8
namespace Go.Proofs.Ytbcndlfnmhmigaa.G
open Go.RowKit Go.Proofs.YtbcndlfnmhmigaaW.PrintWords Go.Proofs.YtbcndlfnmhmigaaW.PrintLast Go.Proofs.YtbcndlfnmhmigaaW.PrintMore
set_option linter.unusedSimpArgs false
set_option linter.unusedVariables false
theorem rdB_at (l : List ByteArray) (i : Nat) (h : i < l.length) : rdOf ByteArray.empty l (i : Int) = l[i] := by
  simp [rdOf, List.getD_eq_getElem?_getD, List.getElem?_eq_getElem h]
theorem eqS_l0 (a : List ByteArray) (hl : a.length ≤ 9223372036854775807) (d : Nat) : ∀ (k i : Nat), i + d = a.length → d < k → laws_eqStringS.l0 k a a (i : Int) = some true := by
  induction d with
  | zero =>
    intro k i h hk
    obtain ⟨k, rfl⟩ : ∃ m, k = m + 1 := ⟨k - 1, by omega⟩
    simp only [laws_eqStringS.l0]; rw [if_neg (by omega)]
  | succ d ih =>
    intro k i h hk
    obtain ⟨k, rfl⟩ : ∃ m, k = m + 1 := ⟨k - 1, by omega⟩
    simp only [laws_eqStringS.l0]
    rw [if_pos (by omega), if_pos (by omega), if_pos (by omega), if_pos trivial, wrap64_id (by omega) (by omega)]
    have := ih k (i + 1) (by omega) (by omega)
    push_cast at this
    exact this
theorem eqS_self (a : List ByteArray) (hl : a.length ≤ 9223372036854775807) (k : Nat) (hk : a.length < k) : laws_eqStringS.f k a a = some true := by
  unfold laws_eqStringS.f
  rw [if_pos rfl]
  exact eqS_l0 a hl a.length k 0 (by omega) hk
/-- The text that marks a number. -/
theorem text_l0 (m : Nat) : ∀ (n : Int) (x : ByteArray), n < 10 ^ m → n ≤ 1000000000000000 → x.size + m ≤ 1000000 → ∃ r, ∀ k, m + 1 ≤ k → laws_markText.l0 k n x = some r := by
  induction m with
  | zero =>
    intro n x hn _ hx
    have h0 : ¬ n > 0 := by simp at hn; omega
    refine ⟨(⟨#[109]⟩ : ByteArray) ++ x, fun k hk => ?_⟩
    · obtain ⟨k, rfl⟩ : ∃ q, k = q + 1 := ⟨k - 1, by omega⟩
      simp only [laws_markText.l0]
      rw [if_neg h0, if_pos (by omega)]
  | succ m ih =>
    intro n x hn hb hx
    by_cases h0 : n > 0
    · have hd : Int.tdiv n 10 = n / 10 := Int.tdiv_eq_ediv_of_nonneg (by omega)
      have w : wrap64 (Int.tdiv n 10) = n / 10 := by rw [hd, wrap64_id (by omega) (by omega)]
      have hn' : n / 10 < 10 ^ m := by
        have e : (10 : Int) ^ (m + 1) = 10 ^ m * 10 := Int.pow_succ 10 m
        rw [e] at hn; omega
      have sz : (strOfNums [(wrap64 (48 + (Int.tmod n 10))) % 256]).size = 1 := rfl
      obtain ⟨r, hr⟩ := ih (n / 10) (strOfNums [(wrap64 (48 + (Int.tmod n 10))) % 256] ++ x) hn' (by omega) (by rw [ByteArray.size_append, sz]; omega)
      refine ⟨r, fun k hk => ?_⟩
      obtain ⟨k, rfl⟩ : ∃ q, k = q + 1 := ⟨k - 1, by omega⟩
      simp only [laws_markText.l0]
      rw [if_pos h0, Option.bind_some, if_pos (by rw [sz]; omega), w]
      exact hr k (by omega)
    · refine ⟨(⟨#[109]⟩ : ByteArray) ++ x, fun k hk => ?_⟩
      · obtain ⟨k, rfl⟩ : ∃ q, k = q + 1 := ⟨k - 1, by omega⟩
        simp only [laws_markText.l0]
        rw [if_neg h0, if_pos (by omega)]
def tx (n : Int) : ByteArray := (laws_markText.f 100 n).getD ByteArray.empty
theorem text_eq {n : Int} (hb : n ≤ 1000000000000000) (k : Nat) (hk : 100 ≤ k) : laws_markText.f k n = some (tx n) := by
  unfold tx
  by_cases h : n ≤ 0
  · unfold laws_markText.f; rw [if_pos h, if_pos h]; rfl
  · obtain ⟨r, hr⟩ := text_l0 16 n ⟨#[]⟩ (by omega) hb (by show (0 : Nat) + 16 ≤ 1000000; omega)
    unfold laws_markText.f
    rw [if_neg h, if_neg h, hr k (by omega), hr 100 (by omega)]; rfl
def marksB (s : Int) : Nat → List ByteArray
  | 0 => []
  | n + 1 => tx s :: marksB (s + 1) n
theorem marksB_length (n : Nat) : ∀ s, (marksB s n).length = n := by
  induction n with
  | zero => intro s; rfl
  | succ n ih => intro s; simp [marksB, ih]
theorem marksB_snoc (n : Nat) : ∀ s, marksB s (n + 1) = marksB s n ++ [tx (s + n)] := by
  induction n with
  | zero => intro s; simp [marksB]
  | succ n ih =>
    intro s
    rw [marksB, ih (s + 1), marksB]
    have e : s + 1 + (n : Int) = s + ((n + 1 : Nat) : Int) := by push_cast; omega
    rw [e]; rfl
theorem marksB_get (n : Nat) : ∀ (s : Int) (i : Nat) (h : i < (marksB s n).length), (marksB s n)[i] = tx (s + i) := by
  induction n with
  | zero => intro s i h; simp [marksB] at h
  | succ n ih =>
    intro s i h
    match i with
    | 0 => simp [marksB]
    | i + 1 =>
      simp only [marksB, List.getElem_cons_succ]
      rw [ih (s + 1) i (by simpa [marksB] using h)]
      congr 1
      push_cast; omega
theorem markB_l0 (l : List ByteArray) (hl : l.length ≤ 2000000) (s : Int) (h0 : 0 ≤ s) (h1 : s ≤ 1000) (d : Nat) : ∀ (k i : Nat), i + d = l.length → 100 + d < k →
    laws_markStringS.l0 k (marksB s i ++ l.drop i) (s + i) (i : Int) = some (s + l.length, marksB s l.length) := by
  induction d with
  | zero =>
    intro k i h hk
    obtain ⟨k, rfl⟩ : ∃ m, k = m + 1 := ⟨k - 1, by omega⟩
    have e : i = l.length := by omega
    subst e
    simp only [laws_markStringS.l0]
    rw [if_neg (by simp [marksB_length])]
    simp
  | succ d ih =>
    intro k i h hk
    obtain ⟨k, rfl⟩ : ∃ m, k = m + 1 := ⟨k - 1, by omega⟩
    have hi : i < l.length := by omega
    have hlen : (marksB s i ++ l.drop i).length = l.length := by simp [marksB_length]; omega
    simp only [laws_markStringS.l0]
    rw [hlen, if_pos (by omega), text_eq (by omega) k (by omega), Option.bind_some, if_pos (by omega), Int.toNat_natCast, wrap64_id (x := s + i + 1) (by omega) (by omega), wrap64_id (x := (i : Int) + 1) (by omega) (by omega)]
    have e1 : ∀ p : ByteArray, (marksB s i ++ l.drop i).set i p = marksB s i ++ p :: l.drop (i + 1) := by
      intro p
      rw [List.set_append_right _ _ (by simp [marksB_length])]
      rw [marksB_length, Nat.sub_self, List.drop_eq_getElem_cons hi, List.set_cons_zero]
    rw [e1]
    have ih' := ih k (i + 1) (by omega) (by omega)
    rw [marksB_snoc, List.append_assoc] at ih'
    push_cast at ih'
    have e4 : s + ((i : Int) + 1) = s + i + 1 := by omega
    rw [e4] at ih'
    exact ih'
theorem markS_eq (l : List ByteArray) (hl : l.length ≤ 2000000) (k : Nat) (hk : 100 + l.length < k) : laws_markStringS.f k l 1 = some (1 + (l.length : Int), marksB 1 l.length) := by
  have := markB_l0 l hl 1 (by omega) (by omega) l.length k 0 (by omega) hk
  simpa [laws_markStringS.f, marksB] using this
theorem heldB_l0 (n : Nat) (hn : n ≤ 2000000) (s : Int) (h0 : 0 ≤ s) (h1 : s ≤ 1000) (d : Nat) : ∀ (k i : Nat), i + d = n → 100 + d < k →
    laws_heldStringS.l0 k (marksB s n) (s + i) (i : Int) = some (s + n) := by
  induction d with
  | zero =>
    intro k i h hk
    obtain ⟨k, rfl⟩ : ∃ m, k = m + 1 := ⟨k - 1, by omega⟩
    have e : i = n := by omega
    subst e
    simp only [laws_heldStringS.l0]
    rw [if_neg (by simp [marksB_length])]
  | succ d ih =>
    intro k i h hk
    obtain ⟨k, rfl⟩ : ∃ m, k = m + 1 := ⟨k - 1, by omega⟩
    have hi : i < (marksB s n).length := by rw [marksB_length]; omega
    simp only [laws_heldStringS.l0]
    rw [if_pos (by omega), if_pos (by omega), text_eq (by omega) k (by omega), Option.bind_some, rdB_at _ i hi, marksB_get n s i hi, if_pos rfl, wrap64_id (x := s + i + 1) (by omega) (by omega), wrap64_id (x := (i : Int) + 1) (by omega) (by omega)]
    have ih' := ih k (i + 1) (by omega) (by omega)
    push_cast at ih'
    have e4 : s + ((i : Int) + 1) = s + i + 1 := by omega
    rw [e4] at ih'
    exact ih'
theorem heldS_eq (n : Nat) (hn : n ≤ 2000000) (k : Nat) (hk : 100 + n < k) : laws_heldStringS.f k (marksB 1 n) 1 = some (1 + (n : Int)) := by
  have := heldB_l0 n hn 1 (by omega) (by omega) n k 0 (by omega) hk
  simpa [laws_heldStringS.f] using this
end Go.Proofs.Ytbcndlfnmhmigaa.G
