/- SplitAny: both cut a text at the bytes of another one. The bounds stand in each theorem. -/
import Derived.Test.YtbcndlfnmhmigaaPz
import Derived.Test.YtbcndlfnmhmigaaF9
import Derived.Test.YtbcndlfnmhmigaaF10
namespace Go.Proofs.Ytbcndlfnmhmigaa.G
open Go.RowKit Go.Proofs.YtbcndlfnmhmigaaW.PrintWords Go.Proofs.YtbcndlfnmhmigaaW.PrintLast Go.Proofs.YtbcndlfnmhmigaaW.PrintMore
set_option linter.unusedSimpArgs false
set_option linter.unusedVariables false
theorem bt_at (s : ByteArray) (i : Nat) (h : i < s.size) : bt s (i : Int) = (s[i].toNat : Int) := by
  unfold bt; simp [h]
/-- one of by's bytes from j on is that at i. -/
def hitF (s b : ByteArray) (i j : Nat) : Prop := ∃ m, j ≤ m ∧ m < b.size ∧ bt s (i : Int) = bt b (m : Int)
instance (s b : ByteArray) (i j : Nat) : Decidable (hitF s b i j) := decidable_of_iff ((List.range b.size).any (fun m => decide (j ≤ m) && decide (bt s (i : Int) = bt b (m : Int))) = true) (by
  rw [List.any_eq_true]
  unfold hitF
  constructor
  · rintro ⟨m, hm, h⟩
    simp at hm h
    exact ⟨m, h.1, hm, h.2⟩
  · rintro ⟨m, h1, h2, h3⟩
    exact ⟨m, by simpa using h2, by simp [h1, h3]⟩)
theorem index_ge (l : List UInt8) (c : UInt8) : Lib.indexByte l c ≥ 0 ↔ c ∈ l := by
  induction l with
  | nil => simp [Lib.indexByte]
  | cons b l ih =>
    have g := Lib.indexByte_ge l c
    unfold Lib.indexByte
    by_cases e : b = c
    · subst e; simp
    · have e' : ¬ c = b := fun h => e h.symm
      by_cases q : Lib.indexByte l c = -1
      · have : ¬ c ∈ l := fun h => by have := ih.2 h; omega
        simp [e, e', q, this]
      · have : c ∈ l := ih.1 (by omega)
        simp [e, e', q, this]
        omega
theorem index_hit (s b : ByteArray) (i : Nat) (hi : i < s.size) : ∃ t, strings_IndexByte.f b (bt s (i : Int)) = some t ∧ (t ≥ 0 ↔ hitF s b i 0) := by
  unfold strings_IndexByte.f stringslite_IndexByte.f
  refine ⟨_, rfl, ?_⟩
  rw [index_ge, bt_at s i hi]
  have e : ((s[i].toNat : Int)).toNat.toUInt8 = s[i] := by rw [Int.toNat_natCast]; simp
  rw [e]
  unfold hitF
  constructor
  · intro h
    obtain ⟨m, hm, e⟩ := List.getElem_of_mem h
    have hm' : m < b.size := by simpa using hm
    refine ⟨m, by omega, hm', ?_⟩
    rw [bt_at s i hi, bt_at b m hm']
    have : b[m] = s[i] := e
    rw [this]
  · rintro ⟨m, _, hm, e⟩
    rw [bt_at s i hi, bt_at b m hm] at e
    have : s[i] = b[m] := UInt8.toNat_inj.1 (by omega)
    rw [this]
    have : b[m] = b.data.toList[m]'(by simpa using hm) := rfl
    rw [this]; exact List.getElem_mem _
/-- The parts from byte i on. -/
def cutG (s b : ByteArray) : Nat → Nat → Nat → List ByteArray → List ByteArray
  | 0, i, f, out => out ++ [s.extract f s.size]
  | d + 1, i, f, out => if hitF s b i 0 then cutG s b d (i + 1) (i + 1) (out ++ [s.extract f i]) else cutG s b d (i + 1) f out
theorem cutG_len (s b : ByteArray) : ∀ (d i f : Nat) (out : List ByteArray), (cutG s b d i f out).length ≤ out.length + d + 1
  | 0, i, f, out => by simp [cutG]
  | d + 1, i, f, out => by
    unfold cutG
    split
    · have := cutG_len s b d (i + 1) (i + 1) (out ++ [s.extract f i]); simp at this; omega
    · have := cutG_len s b d (i + 1) f out; omega
theorem impl_split (s b : ByteArray) (hs : s.size ≤ 1048576) (d : Nat) : ∀ (k i f : Nat) (out : List ByteArray), i + d = s.size → d < k → f ≤ i → out.length ≤ i →
    impl_SplitAny.l0 k s b out (f : Int) (s.size : Int) (i : Int) = some (cutG s b d i f out) := by
  induction d with
  | zero =>
    intro k i f out h hk hf ho
    obtain ⟨k, rfl⟩ : ∃ m, k = m + 1 := ⟨k - 1, by omega⟩
    simp only [impl_SplitAny.l0]
    rw [if_neg (by omega), if_pos (by omega), if_pos (by omega), if_pos (by omega)]
    simp [cutG]
  | succ d ih =>
    intro k i f out h hk hf ho
    obtain ⟨k, rfl⟩ : ∃ m, k = m + 1 := ⟨k - 1, by omega⟩
    have hi : i < s.size := by omega
    obtain ⟨t, et, ht⟩ := index_hit s b i hi
    simp only [impl_SplitAny.l0]
    rw [if_pos (by omega), if_pos (by omega), if_pos (by omega), et, Option.bind_some, wrap64_id (x := (i : Int) + 1) (by omega) (by omega)]
    unfold cutG
    by_cases c : hitF s b i 0
    · rw [if_pos (ht.2 c), if_pos c, if_pos (by omega), if_pos (by omega), if_pos (by omega), if_pos (by omega)]
      have := ih k (i + 1) (i + 1) (out ++ [s.extract f i]) (by omega) (by omega) (by omega) (by simp; omega)
      push_cast at this
      simpa using this
    · rw [if_neg (fun q => c (ht.1 q)), if_neg c]
      have := ih k (i + 1) f out (by omega) (by omega) (by omega) (by omega)
      push_cast at this
      exact this
theorem spec_split1 (s b : ByteArray) (hs : s.size ≤ 1048576) (hb : b.size ≤ 1048576) {i : Nat} (hi : i < s.size) (f : Nat) (hf : f ≤ i) (out : List ByteArray) (ho : out.length ≤ i) (k : Nat) (e : Nat) : ∀ j : Nat, j + e = b.size →
    ∃ k', k ≤ k' ∧ spec_SplitAny.l1 (k + e + 1) s b out (f : Int) (i : Int) (j : Int) = if hitF s b i j then spec_SplitAny.l0 k' s b (out ++ [s.extract f i]) ((i : Int) + 1) ((i : Int) + 1) else spec_SplitAny.l0 k' s b out (f : Int) ((i : Int) + 1) := by
  have w1 : wrap64 ((i : Int) + 1) = (i : Int) + 1 := wrap64_id (by omega) (by omega)
  induction e with
  | zero =>
    intro j h
    refine ⟨k, Nat.le_refl k, ?_⟩
    have : ¬ hitF s b i j := by rintro ⟨m, h1, h2, _⟩; omega
    simp only [spec_SplitAny.l1]
    rw [if_neg (by omega), if_neg this, w1]
  | succ e ih =>
    intro j h
    obtain ⟨K, hK⟩ : ∃ K, K = k + e + 1 := ⟨_, rfl⟩
    rw [show k + (e + 1) + 1 = K + 1 by omega]
    simp only [spec_SplitAny.l1]
    rw [if_pos (by omega), if_pos (by omega), if_pos (by omega), if_pos (by omega), w1]
    by_cases c : bt s (i : Int) = bt b (j : Int)
    · have hh : hitF s b i j := ⟨j, by omega, by omega, c⟩
      refine ⟨K, by omega, ?_⟩
      rw [if_pos c, if_pos (by omega), if_pos (by omega), if_pos (by omega), if_pos (by omega), if_pos hh]
      simp
    · rw [if_neg c, wrap64_id (x := (j : Int) + 1) (by omega) (by omega), hK]
      obtain ⟨k', hk', e1⟩ := ih (j + 1) (by omega)
      push_cast at e1
      refine ⟨k', hk', ?_⟩
      rw [e1]
      have : hitF s b i (j + 1) ↔ hitF s b i j := by
        constructor
        · rintro ⟨m, h1, h2, h3⟩; exact ⟨m, by omega, h2, h3⟩
        · rintro ⟨m, h1, h2, h3⟩
          refine ⟨m, ?_, h2, h3⟩
          rcases Nat.lt_or_ge j m with q | q
          · omega
          · have : m = j := by omega
            subst this; exact absurd h3 c
      by_cases q : hitF s b i j
      · rw [if_pos (this.2 q), if_pos q]
      · rw [if_neg (fun x => q (this.1 x)), if_neg q]
theorem spec_split (s b : ByteArray) (hs : s.size ≤ 1048576) (hb : b.size ≤ 1048576) (M : Nat) (hM : b.size + 3 ≤ M) (d : Nat) : ∀ (k i f : Nat) (out : List ByteArray), i + d = s.size → d * M < k → f ≤ i → out.length ≤ i →
    spec_SplitAny.l0 k s b out (f : Int) (i : Int) = some (cutG s b d i f out) := by
  induction d with
  | zero =>
    intro k i f out h hk hf ho
    rw [Nat.zero_mul] at hk
    obtain ⟨k, rfl⟩ : ∃ m, k = m + 1 := ⟨k - 1, by omega⟩
    simp only [spec_SplitAny.l0]
    rw [if_neg (by omega), if_pos (by omega), if_pos (by omega), if_pos (by omega)]
    simp [cutG]
  | succ d ih =>
    intro k i f out h hk hf ho
    rw [Nat.succ_mul] at hk
    generalize hX : d * M = X at hk ih
    obtain ⟨k, rfl⟩ : ∃ m, k = m + 1 := ⟨k - 1, by omega⟩
    have hi : i < s.size := by omega
    obtain ⟨k0, rfl⟩ : ∃ m, k = m + b.size + 1 := ⟨k - b.size - 1, by omega⟩
    obtain ⟨k', hk', e⟩ := spec_split1 s b hs hb hi f hf out ho k0 b.size 0 (by omega)
    rw [show ((0 : Nat) : Int) = 0 from rfl] at e
    simp only [spec_SplitAny.l0]
    rw [if_pos (by omega), e]
    unfold cutG
    by_cases c : hitF s b i 0
    · rw [if_pos c, if_pos c]
      have := ih k' (i + 1) (i + 1) (out ++ [s.extract f i]) (by omega) (by omega) (by omega) (by simp; omega)
      push_cast at this
      exact this
    · rw [if_neg c, if_neg c]
      have := ih k' (i + 1) f out (by omega) (by omega) (by omega) (by omega)
      push_cast at this
      exact this
theorem cutG_ne (s b : ByteArray) : ∀ (d i f : Nat) (out : List ByteArray), cutG s b d i f out ≠ []
  | 0, i, f, out => by unfold cutG; simp
  | d + 1, i, f, out => by
    unfold cutG
    split
    · exact cutG_ne s b d _ _ _
    · exact cutG_ne s b d _ _ _
theorem all_SplitAny2 (s b : ByteArray) (hs : s.size ≤ 1048576) (hb : b.size ≤ 1048576) : ∃ r : List ByteArray, r ≠ [] ∧ r.length ≤ 1048577 ∧ ∀ k, 2000000000000 < k → spec_SplitAny.f k s b = some r ∧ impl_SplitAny.f k s b = some r := by
  refine ⟨cutG s b s.size 0 0 [], cutG_ne _ _ _ _ _ _, by have := cutG_len s b s.size 0 0 []; simp at this; omega, fun k hk => ⟨?_, ?_⟩⟩
  · have := spec_split s b hs hb 1048579 (by omega) s.size k 0 0 [] (by omega) (Nat.lt_trans (Nat.lt_of_le_of_lt (Nat.mul_le_mul hs (Nat.le_refl _)) (show 1048576 * 1048579 < 2000000000000 by decide)) hk) (by omega) (by simp)
    unfold spec_SplitAny.f; exact this
  · have := impl_split s b hs s.size k 0 0 [] (by omega) (by omega) (by omega) (by simp)
    unfold impl_SplitAny.f; exact this
theorem all_SplitAny (s b : ByteArray) (hs : s.size ≤ 1048576) (hb : b.size ≤ 1048576) : ∃ r : List ByteArray, r.length ≤ 1048577 ∧ ∀ k, 2000000000000 < k → spec_SplitAny.f k s b = some r ∧ impl_SplitAny.f k s b = some r := by
  refine ⟨cutG s b s.size 0 0 [], by have := cutG_len s b s.size 0 0 []; simp at this; omega, fun k hk => ⟨?_, ?_⟩⟩
  · have := spec_split s b hs hb 1048579 (by omega) s.size k 0 0 [] (by omega) (Nat.lt_trans (Nat.lt_of_le_of_lt (Nat.mul_le_mul hs (Nat.le_refl _)) (show 1048576 * 1048579 < 2000000000000 by decide)) hk) (by omega) (by simp)
    unfold spec_SplitAny.f; exact this
  · have := impl_split s b hs s.size k 0 0 [] (by omega) (by omega) (by omega) (by simp)
    unfold impl_SplitAny.f; exact this
end Go.Proofs.Ytbcndlfnmhmigaa.G
