/- impl.ParseInt and the law FnExactParseInt by hand: the library's Atoi and Itoa by the shelf's contracts. By this session. -/
import Derived.Test.YtbcndlfnmhmigaaDoorTSh2
import Derived.Test.YtbcndlfnmhmigaaDoorTLf
import Derived.Test.YtbcndlfnmhmigaaDoorF8
import Derived.Test.YtbcndlfnmhmigaaDoorPpI
import Derived.Lib.AtoiAllCases
namespace Go.Proofs.YtbcndlfnmhmigaaDoor.G
open Go.RowKit Go.Proofs.YtbcndlfnmhmigaaDoorW.PrintWords Go.Proofs.YtbcndlfnmhmigaaDoorW.PrintLast Go.Proofs.YtbcndlfnmhmigaaDoorW.PrintMore Go.Proofs.YtbcndlfnmhmigaaDoorW.PrintBits
set_option linter.unusedVariables false
set_option linter.unusedSimpArgs false
/-- A variable's cells stay under what turned nothing of what was there. -/
theorem var_below {P : Program} {n : String} {cs : Array Value} {w w' : World} (h : w.var? P n = some cs) (hb : Below w.heap.size w w') : w'.var? P n = some cs := by
  unfold World.var? at h ⊢
  cases hg : P.globalNamed n with
  | none => rw [hg] at h; cases h
  | some g =>
    rw [hg] at h
    simp only [Option.bind_some] at h ⊢
    have hlt : g < w.heap.size := by
      rcases Nat.lt_or_ge g w.heap.size with h' | h'
      · exact h'
      · rw [Array.getElem?_eq_none h'] at h; cases h
    rw [hb.block g hlt]
    exact h
/-- What the two variables hold. -/
structure Errs (w : World) : Prop where
  syn : ∃ tp p, w.var? Tryd.prog "strconv.ErrSyntax" = some #[.iface tp p]
  rng : ∃ tp p, w.var? Tryd.prog "strconv.ErrRange" = some #[.iface tp p]
theorem Errs.below {w w' : World} (h : Errs w) (hb : Below w.heap.size w w') : Errs w' := by
  obtain ⟨⟨a, b, h1⟩, ⟨c, d, h2⟩⟩ := h
  exact ⟨⟨a, b, var_below h1 hb⟩, ⟨c, d, var_below h2 hb⟩⟩
/-- How the call of Atoi ends, in one. -/
theorem atoi_ends (s : ByteArray) (hlim : s.size ≤ 281474976710656) (w : World) (he : Errs w) :
    (∃ v, Lib.atoiAll s.data.toList = .ok v ∧ -9223372036854775808 ≤ v ∧ v ≤ 9223372036854775807 ∧ Calls Tryd.prog 18 #[.string s] w fun e w' => e = .returned (.tuple #[.int .i64 v, .nilIface]) ∧ Below w.heap.size w w') ∨
    (parsed s = (0, false) ∧ ∃ x, Calls Tryd.prog 18 #[.string s] w fun e w' => ∃ N, e = .returned (.tuple #[.int .i64 x, .iface 59 (.pointer (some ⟨N, 0, none⟩))]) ∧ Below w.heap.size w w') := by
  obtain ⟨⟨a, b, h1⟩, ⟨c, d, h2⟩⟩ := he
  cases ha : Lib.atoiAll s.data.toList
  · rename_i v
    refine .inl ⟨v, rfl, (Lib.atoiAll_bounds ha).1, (Lib.atoiAll_bounds ha).2, (strconv_Atoi_ok s (by omega) v ha w).mono ?_⟩
    rintro e w' ⟨rfl, hw⟩
    refine ⟨rfl, ?_⟩
    rcases hw with rfl | ⟨t, rfl⟩
    · exact Below.refl _ _
    · exact bytes_below (Below.refl _ _) (Nat.le_refl _) _ _
  · refine .inr ⟨by unfold parsed; rw [ha], 0, (strconv_Atoi_syntax_var s hlim (ha.trans rfl) a b w h1).mono ?_⟩
    rintro e w' ⟨N, rfl, _, _, hb⟩
    exact ⟨N, rfl, hb⟩
  · refine .inr ⟨by unfold parsed; rw [ha], Lib.atoiSat s.data.toList, (strconv_Atoi_range_var s hlim ha c d w h2).mono ?_⟩
    rintro e w' ⟨N, rfl, _, _, hb⟩
    exact ⟨N, rfl, hb⟩
set_option maxRecDepth 100000 in
theorem impl_ParseInt.calls (s : ByteArray) (hlim : s.size ≤ 281474976710656) (w : World) (htab : Lib.TabIs Tryd.prog w "internal/strconv.uint64pow10" .u64 Lib.pow10Tab) (he : Errs w) :
    Calls Tryd.prog 9 #[.string s] w fun e w' => e = .returned (.tuple #[.int .i64 (parsed s).1, .bool (parsed s).2]) ∧ Below w.heap.size w w' := by
  rcases atoi_ends s hlim w he with ⟨v, ha, h0, h1, hc⟩ | ⟨hp, x, hc⟩
  · by_cases hq : (numText v).toList = s.toList
    · have hp : parsed s = (v, true) := by unfold parsed; rw [ha]; exact if_pos hq
      have hq' : Lib.itoa v = s.toList := by rw [← hq, numText, Lib.toList_data]
      have q0 : (Lib.itoa v == s.toList) = true := beq_iff_eq.mpr hq'
      have q2 : (Lib.itoa v != s.toList) = false := bne_eq_false_iff_eq.mpr hq'
      have q1 : ((⟨(Lib.itoa v).toArray⟩ : ByteArray).toList != s.toList) = false := bne_eq_false_iff_eq.mpr hq
      rw [hp]
      go_enter Tryd.func9, Tryd.ntmps9
      go_wp2_with (first
        | ((with_reducible refine gate_callee (f := 18) rfl ?_); refine goesL_ (some 8) rfl rfl Tryd.func18 (by kernel_rfl) rfl #[.string s] rfl (by (try simp only [List.map_toArray, List.map_cons, List.map_nil]); first | done | rfl | (simp only [List.length_drop, List.length_take]; rfl)) ?_; (with_reducible refine hc.mono ?_); rintro e w1 ⟨rfl, hb1⟩; refine ⟨_, rfl, ?_⟩; have HB1 := Aside0.mk hb1; clear hb1)
        | (go_at_call 16; (with_reducible refine (strconv_Itoa v h0 h1 _ (tab_below htab HB1.out)).mono ?_); rintro e w_ ⟨rfl, k, os, rfl⟩))
      go_ret2
      exact ⟨rfl, HB1.out.trans (Go.Lib.below_grow _ _ HB1.out.size _ _)⟩
    · have hp : parsed s = (0, false) := by unfold parsed; rw [ha]; exact if_neg hq
      have hq' : Lib.itoa v ≠ s.toList := fun e => hq (by rw [← e, numText, Lib.toList_data])
      have q0 : (Lib.itoa v == s.toList) = false := beq_eq_false_iff_ne.mpr hq'
      have q2 : (Lib.itoa v != s.toList) = true := bne_iff_ne.mpr hq'
      have q1 : ((⟨(Lib.itoa v).toArray⟩ : ByteArray).toList != s.toList) = true := bne_iff_ne.mpr hq
      rw [hp]
      go_enter Tryd.func9, Tryd.ntmps9
      go_wp2_with (first
        | ((with_reducible refine gate_callee (f := 18) rfl ?_); refine goesL_ (some 8) rfl rfl Tryd.func18 (by kernel_rfl) rfl #[.string s] rfl (by (try simp only [List.map_toArray, List.map_cons, List.map_nil]); first | done | rfl | (simp only [List.length_drop, List.length_take]; rfl)) ?_; (with_reducible refine hc.mono ?_); rintro e w1 ⟨rfl, hb1⟩; refine ⟨_, rfl, ?_⟩; have HB1 := Aside0.mk hb1; clear hb1)
        | (go_at_call 16; (with_reducible refine (strconv_Itoa v h0 h1 _ (tab_below htab HB1.out)).mono ?_); rintro e w_ ⟨rfl, k, os, rfl⟩))
      go_ret2
      exact ⟨rfl, HB1.out.trans (Go.Lib.below_grow _ _ HB1.out.size _ _)⟩
  · rw [hp]
    go_enter Tryd.func9, Tryd.ntmps9
    go_wp2_with (first
      | ((with_reducible refine gate_callee (f := 18) rfl ?_); refine goesL_ (some 8) rfl rfl Tryd.func18 (by kernel_rfl) rfl #[.string s] rfl (by (try simp only [List.map_toArray, List.map_cons, List.map_nil]); first | done | rfl | (simp only [List.length_drop, List.length_take]; rfl)) ?_; (with_reducible refine hc.mono ?_); rintro e w1 ⟨N, rfl, hb1⟩; refine ⟨_, rfl, ?_⟩; have HB1 := Aside0.mk hb1; clear hb1))
    go_ret2
    exact ⟨rfl, HB1.out⟩
set_option maxRecDepth 100000 in
theorem laws_FnExactParseInt.calls (k : Nat) (s : ByteArray) (hlim : s.size ≤ 281474976710656) (w : World) (htab : Lib.TabIs Tryd.prog w "internal/strconv.uint64pow10" .u64 Lib.pow10Tab) (he : Errs w) (h : (s.size : Int) > 1048576 ∨ spec_ParseInt.f k s = some (parsed s)) :
    Calls Tryd.prog 4 #[.string s] w fun e w' => e = .returned (.bool true) ∧ Below w.heap.size w w' := by
  by_cases c1 : (s.size : Int) > 1048576
  · have c1b0 : decide ((s.size : Int) > 1048576) = true := decide_eq_true c1
    have c1b1 : decide ((1048576 : Int) < (s.size : Int)) = true := decide_eq_true c1
    clear c1
    go_enter Tryd.func4, Tryd.ntmps4
    go_wp2
    go_ret
    exact ⟨rfl, Below.refl _ _⟩
  · have c1b0 : decide ((s.size : Int) > 1048576) = false := decide_eq_false c1
    have c1b1 : decide ((1048576 : Int) < (s.size : Int)) = false := decide_eq_false c1
    replace h := h.resolve_left c1
    clear c1
    have hi := fun W ht hE => impl_ParseInt.calls s hlim W ht hE
    generalize parsed s = r at h hi
    obtain ⟨r0, r1⟩ := r
    have q1 : (r1 != r1) = false := by cases r1 <;> rfl
    have q0 : (r0 != r0) = false := bne_self_eq_false _
    go_enter Tryd.func4, Tryd.ntmps4
    go_wp2_with (first
      | ((with_reducible refine gate_callee (f := 8) rfl ?_); refine goesL_ (some 12) rfl rfl Tryd.func8 (by kernel_rfl) rfl #[.string s] rfl (by (try simp only [List.map_toArray, List.map_cons, List.map_nil]); first | done | rfl | (simp only [List.length_drop, List.length_take]; rfl)) ?_; (with_reducible refine (spec_ParseInt.calls k s _ _ _ h).mono ?_); rintro e w1 ⟨rfl, hb1⟩; refine ⟨_, rfl, ?_⟩; have HB1 := Aside0.mk hb1; clear hb1)
      | ((with_reducible refine gate_callee (f := 9) rfl ?_); refine goesL_ (some 17) rfl rfl Tryd.func9 (by kernel_rfl) rfl #[.string s] rfl (by (try simp only [List.map_toArray, List.map_cons, List.map_nil]); first | done | rfl | (simp only [List.length_drop, List.length_take]; rfl)) ?_; (with_reducible refine (hi _ (tab_below htab HB1.out) (he.below HB1.out)).mono ?_); rintro e w2 ⟨rfl, hb2⟩; refine ⟨_, rfl, ?_⟩; have HB2 := Aside0.mk hb2; clear hb2))
    go_ret
    exact ⟨rfl, HB1.out.trans (HB2.out.mono HB1.out.size)⟩
#print axioms laws_FnExactParseInt.calls
end Go.Proofs.YtbcndlfnmhmigaaDoor.G
