/- SplitAny of the program alone: it cuts a text at the bytes of another one. The bounds stand in each theorem. -/
import Derived.Test.YtbcndlfnmhmigaaDoorPz
import Derived.Test.YtbcndlfnmhmigaaDoorF13
namespace Go.Proofs.YtbcndlfnmhmigaaDoor.G
open Go.RowKit Go.Proofs.YtbcndlfnmhmigaaDoorW.PrintWords Go.Proofs.YtbcndlfnmhmigaaDoorW.PrintLast Go.Proofs.YtbcndlfnmhmigaaDoorW.PrintMore
set_option linter.unusedSimpArgs false
set_option linter.unusedVariables false
theorem bt_at (s : ByteArray) (i : Nat) (h : i < s.size) : bt s (i : Int) = (s[i].toNat : Int) := by
  unfold bt; simp [h]
/-- one of by's bytes from j on is that at i. -/
def hitF (s b : ByteArray) (i j : Nat) : Prop := ∃ m, j ≤ m ∧ m < b.size ∧ bt s (i : Int) = bt b (m : Int)
instance (s b : ByteArray) (i j : Nat) : Decidable (hitF s b i j) := decidable_of_iff ((List.range b.size).any (fun m => decide (j ≤ m) && decide (bt s (i : Int) = bt b (m : Int))) = true) (by
  rw [List.any_eq_true]
  unfold hitF
  constructor
  · rintro ⟨m, hm, h⟩
    simp at hm h
    exact ⟨m, h.1, hm, h.2⟩
  · rintro ⟨m, h1, h2, h3⟩
    exact ⟨m, by simpa using h2, by simp [h1, h3]⟩)
theorem index_ge (l : List UInt8) (c : UInt8) : Lib.indexByte l c ≥ 0 ↔ c ∈ l := by
  induction l with
  | nil => simp [Lib.indexByte]
  | cons b l ih =>
    have g := Lib.indexByte_ge l c
    unfold Lib.indexByte
    by_cases e : b = c
    · subst e; simp
    · have e' : ¬ c = b := fun h => e h.symm
      by_cases q : Lib.indexByte l c = -1
      · have : ¬ c ∈ l := fun h => by have := ih.2 h; omega
        simp [e, e', q, this]
      · have : c ∈ l := ih.1 (by omega)
        simp [e, e', q, this]
        omega
theorem index_hit (s b : ByteArray) (i : Nat) (hi : i < s.size) : ∃ t, strings_IndexByte.f b (bt s (i : Int)) = some t ∧ (t ≥ 0 ↔ hitF s b i 0) := by
  unfold strings_IndexByte.f stringslite_IndexByte.f
  refine ⟨_, rfl, ?_⟩
  rw [index_ge, bt_at s i hi]
  have e : ((s[i].toNat : Int)).toNat.toUInt8 = s[i] := by rw [Int.toNat_natCast]; simp
  rw [e]
  unfold hitF
  constructor
  · intro h
    obtain ⟨m, hm, e⟩ := List.getElem_of_mem h
    have hm' : m < b.size := by simpa using hm
    refine ⟨m, by omega, hm', ?_⟩
    rw [bt_at s i hi, bt_at b m hm']
    have : b[m] = s[i] := e
    rw [this]
  · rintro ⟨m, _, hm, e⟩
    rw [bt_at s i hi, bt_at b m hm] at e
    have : s[i] = b[m] := UInt8.toNat_inj.1 (by omega)
    rw [this]
    have : b[m] = b.data.toList[m]'(by simpa using hm) := rfl
    rw [this]; exact List.getElem_mem _
/-- The parts from byte i on. -/
def cutG (s b : ByteArray) : Nat → Nat → Nat → List ByteArray → List ByteArray
  | 0, i, f, out => out ++ [s.extract f s.size]
  | d + 1, i, f, out => if hitF s b i 0 then cutG s b d (i + 1) (i + 1) (out ++ [s.extract f i]) else cutG s b d (i + 1) f out
theorem cutG_len (s b : ByteArray) : ∀ (d i f : Nat) (out : List ByteArray), (cutG s b d i f out).length ≤ out.length + d + 1
  | 0, i, f, out => by simp [cutG]
  | d + 1, i, f, out => by
    unfold cutG
    split
    · have := cutG_len s b d (i + 1) (i + 1) (out ++ [s.extract f i]); simp at this; omega
    · have := cutG_len s b d (i + 1) f out; omega
theorem impl_split (s b : ByteArray) (hs : s.size ≤ 1048576) (d : Nat) : ∀ (k i f : Nat) (out : List ByteArray), i + d = s.size → d < k → f ≤ i → out.length ≤ i →
    impl_SplitAny.l0 k s b out (f : Int) (s.size : Int) (i : Int) = some (cutG s b d i f out) := by
  induction d with
  | zero =>
    intro k i f out h hk hf ho
    obtain ⟨k, rfl⟩ : ∃ m, k = m + 1 := ⟨k - 1, by omega⟩
    simp only [impl_SplitAny.l0]
    rw [if_neg (by omega), if_pos (by omega), if_pos (by omega), if_pos (by omega)]
    simp [cutG]
  | succ d ih =>
    intro k i f out h hk hf ho
    obtain ⟨k, rfl⟩ : ∃ m, k = m + 1 := ⟨k - 1, by omega⟩
    have hi : i < s.size := by omega
    obtain ⟨t, et, ht⟩ := index_hit s b i hi
    simp only [impl_SplitAny.l0]
    rw [if_pos (by omega), if_pos (by omega), if_pos (by omega), et, Option.bind_some, wrap64_id (x := (i : Int) + 1) (by omega) (by omega)]
    unfold cutG
    by_cases c : hitF s b i 0
    · rw [if_pos (ht.2 c), if_pos c, if_pos (by omega), if_pos (by omega), if_pos (by omega), if_pos (by omega)]
      have := ih k (i + 1) (i + 1) (out ++ [s.extract f i]) (by omega) (by omega) (by omega) (by simp; omega)
      push_cast at this
      simpa using this
    · rw [if_neg (fun q => c (ht.1 q)), if_neg c]
      have := ih k (i + 1) f out (by omega) (by omega) (by omega) (by omega)
      push_cast at this
      exact this
end Go.Proofs.YtbcndlfnmhmigaaDoor.G
