/- FnWords: what its calls come to. By this session. -/
import Derived.Test.YtbcndlfnmhmigaaDoorPureFnExactParseInt
import Derived.Test.YtbcndlfnmhmigaaDoorPm
import Derived.Test.YtbcndlfnmhmigaaDoorPqSi
import Derived.Test.YtbcndlfnmhmigaaDoorF10
import Derived.Test.YtbcndlfnmhmigaaDoorF11
import Derived.Test.YtbcndlfnmhmigaaDoorF23
import Derived.Test.YtbcndlfnmhmigaaDoorF12
import Derived.Test.YtbcndlfnmhmigaaDoorF14
import Derived.Test.YtbcndlfnmhmigaaDoorF15
import Derived.Lib.ItoaLen
import Derived.Lib.Join
namespace Go.Proofs.YtbcndlfnmhmigaaDoor.Pure
open Go.RowKit Go.Proofs.YtbcndlfnmhmigaaDoor.G Go.Proofs.YtbcndlfnmhmigaaDoorW.PrintWords Go.Proofs.YtbcndlfnmhmigaaDoorW.PrintLast Go.Proofs.YtbcndlfnmhmigaaDoorW.PrintMore
set_option linter.unusedVariables false
set_option linter.unusedSimpArgs false
abbrev sp : ByteArray := ⟨#[32]⟩
theorem join_two (xs : List (List UInt8)) (a b sep : List UInt8) : Lib.join (xs ++ [a, b]) sep = Lib.join (xs ++ [a ++ sep ++ b]) sep := by
  cases xs with
  | nil => simp [Lib.join_cons, Lib.join_one, Lib.joinTail]
  | cons x r => simp [Lib.join_cons, Lib.joinTail]
theorem hit_sp (s : ByteArray) (i : Nat) (hi : i < s.size) (h : hitF s sp i 0) : s.data.toList[i]? = some 32 := by
  obtain ⟨m, _, hm, e⟩ := h
  obtain rfl : m = 0 := by have : sp.size = 1 := rfl; omega
  have hl : i < s.data.toList.length := by rw [← size_list]; exact hi
  have e0 : bt sp ((0 : Nat) : Int) = 32 := rfl
  rw [e0, bt_list s i _ (List.getElem?_eq_getElem hl)] at e
  rw [List.getElem?_eq_getElem hl]
  exact congrArg some (UInt8.toNat_inj.mp (by have : (32 : UInt8).toNat = 32 := rfl; omega))
theorem ext_list (s : ByteArray) (f i : Nat) : (s.extract f i).data.toList = (s.data.toList.take i).drop f := by
  rw [ByteArray.data_extract, Array.toList_extract, List.extract_eq_drop_take', ]
theorem join_cut (s : ByteArray) : ∀ (d i f : Nat) (out : List ByteArray), i + d = s.size → f ≤ i → Lib.join ((cutG s sp d i f out).map (·.data.toList)) [32] = Lib.join ((out ++ [s.extract f s.size]).map (·.data.toList)) [32] := by
  intro d
  induction d with
  | zero => intro i f out h hf; rfl
  | succ d ih =>
    intro i f out h hf
    unfold cutG
    by_cases c : hitF s sp i 0
    · rw [if_pos c, ih (i + 1) (i + 1) _ (by omega) (by omega)]
      have hs := hit_sp s i (by omega) c
      have hlen : s.data.toList.length = s.size := (size_list s).symm
      have e : (s.extract f s.size).data.toList = (s.extract f i).data.toList ++ [32] ++ (s.extract (i + 1) s.size).data.toList := by
        rw [ext_list, ext_list, ext_list, List.take_of_length_le (by omega)]
        obtain ⟨hl, hg⟩ := List.getElem?_eq_some_iff.mp hs
        have e1 : s.data.toList.drop f = (s.data.toList.take i ++ s.data.toList.drop i).drop f := by rw [List.take_append_drop]
        rw [e1, List.drop_append_of_le_length (by rw [List.length_take]; omega), List.drop_eq_getElem_cons hl, hg]
        simp
      simp only [List.map_append, List.map_cons, List.map_nil, List.append_assoc, List.cons_append, List.nil_append]
      rw [join_two, e]
    · rw [if_neg c, ih (i + 1) f out (by omega) (by omega)]
theorem words_ok (s : ByteArray) (hs : s.size ≤ 1000) : ∃ ws, (∀ k, 1000 < k → impl_SplitAny.f k s sp = some ws) ∧ impl_Join.f ws sp = some s := by
  refine ⟨cutG s sp s.size 0 0 [], fun k hk => ?_, ?_⟩
  · have := impl_split s sp (by omega) s.size k 0 0 [] (by omega) (by omega) (by omega) (by simp)
    unfold impl_SplitAny.f; exact this
  · have hl := cutG_len s sp s.size 0 0 []
    have hj := join_cut s s.size 0 0 [] (by omega) (by omega)
    have hj' : Lib.join ((cutG s sp s.size 0 0 []).map (·.data.toList)) [32] = s.data.toList := by
      rw [hj, List.nil_append, List.map_cons, List.map_nil, Lib.join_one, ext_list, List.take_of_length_le (by rw [← size_list]; omega), List.drop_zero]
    have e32 : sp.data.toList = [32] := rfl
    have hsz : s.data.toList.length = s.size := (size_list s).symm
    unfold impl_Join.f strings_Join.f
    rw [e32, hj', if_pos (by simp at hl; omega), if_pos (by omega), Option.bind_some]
abbrev five : List ByteArray := [(⟨#[97]⟩ : ByteArray), (⟨#[98, 99]⟩ : ByteArray), (⟨#[32]⟩ : ByteArray), (⟨#[44]⟩ : ByteArray), (⟨#[120, 49]⟩ : ByteArray)]
theorem str_ok (l : List Int) (hl : l.length ≤ 1099511627776) (i h : Int) (hi : 0 ≤ i) : ∃ x i' h', spec_l01Str.f l i h five = some (x, i', h') ∧ x.size ≤ 2 ∧ 0 ≤ i' := by
  obtain ⟨b, i', h', e, b0, b1, hi'⟩ := below_eq l hl i h 5 hi (by omega) (by omega)
  unfold spec_l01Str.f
  have e5 : (five.length : Int) = 5 := rfl
  rw [e5, e, Option.bind_some, if_pos b0, if_pos b1]
  refine ⟨_, _, _, rfl, ?_, hi'⟩
  show (rdOf ByteArray.empty five b).size ≤ 2
  have hb : b = 0 ∨ b = 1 ∨ b = 2 ∨ b = 3 ∨ b = 4 := by omega
  clear e
  rcases hb with rfl | rfl | rfl | rfl | rfl <;> decide
theorem text_l0 (l : List Int) (hl : l.length ≤ 1099511627776) (d : Nat) : ∀ (acc : ByteArray) (i h : Int), 0 ≤ i → acc.size + 2 * d ≤ 900 → ∃ s, s.size ≤ 900 ∧ ∀ k, d < k → spec_MakeText.l0 k acc (d : Int) l i h = some s := by
  induction d with
  | zero =>
    intro acc i h hi ha
    refine ⟨acc, by omega, fun k hk => ?_⟩
    obtain ⟨k, rfl⟩ : ∃ m, k = m + 1 := ⟨k - 1, by omega⟩
    rw [spec_MakeText.l0, if_neg (by omega)]
  | succ d ih =>
    intro acc i h hi ha
    obtain ⟨x, i', h', e, hx, hi'⟩ := str_ok l hl i h hi
    have hsz : (acc ++ x).size = acc.size + x.size := ByteArray.size_append
    obtain ⟨s, hs, hk'⟩ := ih (acc ++ x) i' h' hi' (by omega)
    refine ⟨s, hs, fun k hk => ?_⟩
    obtain ⟨k, rfl⟩ : ∃ m, k = m + 1 := ⟨k - 1, by omega⟩
    have e1 : wrap64 (((d + 1 : Nat) : Int) - 1) = (d : Int) := by unfold wrap64; omega
    rw [spec_MakeText.l0, if_pos (by omega), show spec_l01Str.f l i h [(⟨#[97]⟩ : ByteArray), (⟨#[98, 99]⟩ : ByteArray), (⟨#[32]⟩ : ByteArray), (⟨#[44]⟩ : ByteArray), (⟨#[120, 49]⟩ : ByteArray)] = some (x, i', h') from e, Option.bind_some, if_pos (by simp only; unfold wrap64 at e1; omega), e1]
    exact hk' k (by omega)
theorem make_ok (l : List Int) (hl : l.length ≤ 1099511627776) : ∃ s, s.size ≤ 900 ∧ ∀ k, 4000 < k → spec_MakeText.f k l = some s := by
  obtain ⟨h0, e0⟩ := new_eq l hl
  obtain ⟨b, i', h', e, b0, b1, hi'⟩ := below_eq l hl 0 h0 8 (by omega) (by omega) (by omega)
  obtain ⟨n, rfl⟩ : ∃ n : Nat, b = (n : Int) := ⟨b.toNat, by omega⟩
  obtain ⟨s, hs, hk'⟩ := text_l0 l hl n ⟨#[]⟩ i' h' hi' (by have : (⟨#[]⟩ : ByteArray).size = 0 := rfl; omega)
  refine ⟨s, hs, fun k hk => ?_⟩
  unfold spec_MakeText.f
  rw [e0 k hk, Option.bind_some, e, Option.bind_some]
  exact hk' k (by omega)
theorem num_ok (l : List Int) (hl : l.length ≤ 1099511627776) : ∃ r, ∀ k, 4000 < k → spec_MakeNum.f k l 1 = some r := by
  obtain ⟨i, h, hi, e⟩ := l31_eq l hl 1 (by omega)
  obtain ⟨b1, i1, h1, e1, _, _, hi1⟩ := byte_eq l hl i h hi
  obtain ⟨b2, i2, h2, e2, _, _, hi2⟩ := byte_eq l hl i1 h1 hi1
  refine ⟨wrap64 ((wrap64 (b1 * 256)) + b2), fun k hk => ?_⟩
  unfold spec_MakeNum.f
  rw [show spec_l31New.f k l 1 = some (l, i, h) from e k hk, Option.bind_some, e1, Option.bind_some, e2, Option.bind_some]
theorem lines_ok : impl_SplitLines.f 10 ⟨#[97, 10, 98, 10]⟩ = some [⟨#[97]⟩, ⟨#[98]⟩] := by
  have e : impl_SplitAny.f 10 ⟨#[97, 10, 98, 10]⟩ ⟨#[10]⟩ = some [⟨#[97]⟩, ⟨#[98]⟩, ⟨#[]⟩] := by decide +kernel
  unfold impl_SplitLines.f
  rw [e, Option.bind_some]
  have ew : wrap64 ((([(⟨#[97]⟩ : ByteArray), ⟨#[98]⟩, ⟨#[]⟩] : List ByteArray).length : Int) - 1) = 2 := by decide +kernel
  have e2 : (rdOf ByteArray.empty [(⟨#[97]⟩ : ByteArray), ⟨#[98]⟩, ⟨#[]⟩] 2).toList = ([] : List UInt8) := by
    rw [Lib.toList_data]; rfl
  rw [ew, if_pos (by decide), if_pos (by decide), if_pos e2, if_pos (by decide)]
  rfl
theorem name_ok : impl_IsName.f 10 ⟨#[120, 49]⟩ = some true := by decide +kernel
theorem FnWords (l : List Int) (hl : l.length ≤ 1099511627776) : ∃ (k : Nat) (r : Int) (s : ByteArray) (ws ls : List ByteArray), s.size ≤ 281474976710656 ∧ (spec_MakeNum.f k l 1 = some r ∧ -9223372036854775808 ≤ wrap64 (r - 30000) ∧ wrap64 (r - 30000) ≤ 9223372036854775807 ∧ (numText (wrap64 (r - 30000))).size ≤ 281474976710656 ∧ parsed (numText (wrap64 (r - 30000))) = (wrap64 (r - 30000), true) ∧ spec_MakeText.f k l = some s ∧ impl_SplitAny.f k s ⟨#[32]⟩ = some ws ∧ impl_Join.f ws ⟨#[32]⟩ = some s ∧ impl_IsName.f k ⟨#[120, 49]⟩ = some true ∧ impl_SplitLines.f k ⟨#[97, 10, 98, 10]⟩ = some ls ∧ ls.length = 2) := by
  obtain ⟨r, hr⟩ := num_ok l hl
  obtain ⟨s, hs, hm⟩ := make_ok l hl
  obtain ⟨ws, h1, h2⟩ := words_ok s (by omega)
  obtain ⟨b0, b1⟩ := wrap64_lo (r - 30000)
  refine ⟨4001, r, s, ws, _, by omega, hr 4001 (by omega), b0, b1, ?_, parsed_itoa _ b0 b1, hm 4001 (by omega), h1 4001 (by omega), h2, up (fun k => impl_IsName.mono _ k) name_ok 4001 (by omega), up (fun k => impl_SplitLines.mono _ k) lines_ok 4001 (by omega), rfl⟩
  have := Lib.itoa_length_le (wrap64 (r - 30000)) b0 b1
  rw [size_list, numText]
  simp only [List.toList_toArray]
  omega
theorem FnWords_all (l : List Int) : ∃ (k : Nat) (r : Int) (s : ByteArray) (ws ls : List ByteArray), s.size ≤ 281474976710656 ∧ ((l.length : Int) > 1048576 ∨ (spec_MakeNum.f k l 1 = some r ∧ -9223372036854775808 ≤ wrap64 (r - 30000) ∧ wrap64 (r - 30000) ≤ 9223372036854775807 ∧ (numText (wrap64 (r - 30000))).size ≤ 281474976710656 ∧ parsed (numText (wrap64 (r - 30000))) = (wrap64 (r - 30000), true) ∧ spec_MakeText.f k l = some s ∧ impl_SplitAny.f k s ⟨#[32]⟩ = some ws ∧ impl_Join.f ws ⟨#[32]⟩ = some s ∧ impl_IsName.f k ⟨#[120, 49]⟩ = some true ∧ impl_SplitLines.f k ⟨#[97, 10, 98, 10]⟩ = some ls ∧ ls.length = 2)) := by
  by_cases c : (l.length : Int) > 1048576
  · exact ⟨0, 0, ⟨#[]⟩, [], [], by decide, .inl c⟩
  · obtain ⟨k, r, s, ws, ls, hs, h⟩ := FnWords l (by omega)
    exact ⟨k, r, s, ws, ls, hs, .inr h⟩
end Go.Proofs.YtbcndlfnmhmigaaDoor.Pure
