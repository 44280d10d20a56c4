/- The law FnWords by hand, for the answer true. By this session. -/
import Derived.Test.YtbcndlfnmhmigaaDoorTPi
import Derived.Test.YtbcndlfnmhmigaaDoorF10
import Derived.Test.YtbcndlfnmhmigaaDoorF11
import Derived.Test.YtbcndlfnmhmigaaDoorF12
import Derived.Test.YtbcndlfnmhmigaaDoorF13
import Derived.Test.YtbcndlfnmhmigaaDoorF14
import Derived.Test.YtbcndlfnmhmigaaDoorF15
namespace Go.Proofs.YtbcndlfnmhmigaaDoor.G
open Go.RowKit Go.Proofs.YtbcndlfnmhmigaaDoorW.PrintWords Go.Proofs.YtbcndlfnmhmigaaDoorW.PrintLast Go.Proofs.YtbcndlfnmhmigaaDoorW.PrintMore Go.Proofs.YtbcndlfnmhmigaaDoorW.PrintBits
set_option linter.unusedVariables false
set_option linter.unusedSimpArgs false
set_option maxHeartbeats 2000000 in
set_option maxRecDepth 100000 in
theorem laws_FnWords.calls (k : Nat) (A0 : Option Addr) (c0 : Nat) (l0 : List Int) (w : World) (hr0 : Kd.C (Kd.int .u8) w A0 l0.length l0) (hc0 : l0.length ≤ c0) (htab : Lib.TabIs Tryd.prog w "internal/strconv.uint64pow10" .u64 Lib.pow10Tab) (he : Errs w)
    (r : Int) (s : ByteArray) (ws ls : List ByteArray) (hs : s.size ≤ 281474976710656)
    (h1 : (l0.length : Int) > 1048576 ∨ spec_MakeNum.f k l0 1 = some r ∧ -9223372036854775808 ≤ wrap64 (r - 30000) ∧ wrap64 (r - 30000) ≤ 9223372036854775807 ∧ (numText (wrap64 (r - 30000))).size ≤ 281474976710656 ∧ parsed (numText (wrap64 (r - 30000))) = (wrap64 (r - 30000), true) ∧ spec_MakeText.f k l0 = some s ∧ impl_SplitAny.f k s ⟨#[32]⟩ = some ws ∧ impl_Join.f ws ⟨#[32]⟩ = some s ∧ impl_IsName.f k ⟨#[120, 49]⟩ = some true ∧ impl_SplitLines.f k ⟨#[97, 10, 98, 10]⟩ = some ls ∧ ls.length = 2) :
    Calls Tryd.prog 5 #[.slice A0 l0.length c0] w fun e w' => e = .returned (.bool true) ∧ Below w.heap.size w w' := by
  by_cases c1 : (l0.length : Int) > 1048576
  · have c1b0 : decide ((l0.length : Int) > 1048576) = true := decide_eq_true c1
    have c1b1 : decide ((1048576 : Int) < (l0.length : Int)) = true := decide_eq_true c1
    clear c1
    go_enter Tryd.func5, Tryd.ntmps5
    go_wp2
    go_ret
    exact ⟨rfl, Below.refl _ _⟩
  · have c1b0 : decide ((l0.length : Int) > 1048576) = false := decide_eq_false c1
    have c1b1 : decide ((1048576 : Int) < (l0.length : Int)) = false := decide_eq_false c1
    obtain ⟨a1, b0, b1, hsz, hp, a2, a3, a4, a5, a6, hl⟩ := h1.resolve_left c1
    clear c1 h1
    generalize hn : wrap64 (r - 30000) = n at b0 b1 hsz hp
    have hnw : IntKind.i64.wrap (r - 30000) = n := (i64_w _).trans hn
    have q0 : (n == n) = true := beq_self_eq_true _
    have q1 : (s.toList == s.toList) = true := beq_self_eq_true _
    have q2 : ((ls.length : Int) == 2) = true := beq_iff_eq.mpr (by omega)
    have HR0 := Aside0.mk hr0
    have HC0 := Aside0.mk hc0
    have HT := Aside0.mk htab
    have HE := Aside0.mk he
    clear hr0 hc0
    have HB := Aside0.mk (Below.refl w.heap.size w)
    have HP := Aside0.mk hp
    clear hp
    have hi := fun W ht hE => (impl_ParseInt.calls (numText n) hsz W ht hE)
    rw [HP.out] at hi
    go_enter Tryd.func5, Tryd.ntmps5
    go_wp2_with (first
      | ((with_reducible refine gate_callee (f := 10) rfl ?_); refine goesL_ (some 11) rfl rfl Tryd.func10 (by kernel_rfl) rfl #[.slice A0 l0.length c0, .int .i64 1] rfl (by (try simp only [List.map_toArray, List.map_cons, List.map_nil]); first | done | rfl | (simp only [List.length_drop, List.length_take]; rfl)) ?_; (with_reducible refine (spec_MakeNum.calls k _ _ l0 1 r _ ?side1 ?side2 a1).mono ?_); (case side1 => exact Kd.C_below HR0.out HB.out); (case side2 => exact HC0.out); rintro e w1 ⟨rfl, hb⟩; refine ⟨_, rfl, ?_⟩; have HB' := Aside0.mk (HB.out.trans (hb.mono HB.out.size)); clear HB hb; have HB := HB'; clear HB')
      | ((with_reducible refine gate_callee (f := 7) rfl ?_); refine goesL_ (some 15) rfl rfl Tryd.func7 (by kernel_rfl) rfl #[.int .i64 n] rfl (by (try simp only [List.map_toArray, List.map_cons, List.map_nil]); first | done | rfl | (simp only [List.length_drop, List.length_take]; rfl)) ?_; (with_reducible refine (impl_FormatInt.calls n b0 b1 _ (tab_below HT.out HB.out)).mono ?_); rintro e w2 ⟨rfl, hb⟩; refine ⟨_, rfl, ?_⟩; have HB' := Aside0.mk (HB.out.trans (hb.mono HB.out.size)); clear HB hb; have HB := HB'; clear HB')
      | ((with_reducible refine gate_callee (f := 9) rfl ?_); refine goesL_ (some 16) rfl rfl Tryd.func9 (by kernel_rfl) rfl #[.string (numText n)] rfl (by (try simp only [List.map_toArray, List.map_cons, List.map_nil]); first | done | rfl | (simp only [List.length_drop, List.length_take]; rfl)) ?_; (with_reducible refine (hi _ (tab_below HT.out HB.out) (HE.out.below HB.out)).mono ?_); rintro e w3 ⟨rfl, hb⟩; refine ⟨_, rfl, ?_⟩; have HB' := Aside0.mk (HB.out.trans (hb.mono HB.out.size)); clear HB hb; have HB := HB'; clear HB')
      | ((with_reducible refine gate_callee (f := 11) rfl ?_); refine goesL_ (some 20) rfl rfl Tryd.func11 (by kernel_rfl) rfl #[.slice A0 l0.length c0] rfl (by (try simp only [List.map_toArray, List.map_cons, List.map_nil]); first | done | rfl | (simp only [List.length_drop, List.length_take]; rfl)) ?_; (with_reducible refine (spec_MakeText.calls k _ _ l0 s _ ?side1 ?side2 a2).mono ?_); (case side1 => exact Kd.C_below HR0.out HB.out); (case side2 => exact HC0.out); rintro e w4 ⟨rfl, hb⟩; refine ⟨_, rfl, ?_⟩; have HB' := Aside0.mk (HB.out.trans (hb.mono HB.out.size)); clear HB hb; have HB := HB'; clear HB')
      | (go_at_call 13; (with_reducible refine (impl_SplitAny.calls k s ⟨#[32]⟩ ws _ a3).mono ?_); rintro e w5 ⟨v_, rfl, ho, hb⟩; obtain ⟨Aw, cw, rfl⟩ := Kd.R_slice ho; have HW := Aside0.mk ho; have HB' := Aside0.mk (HB.out.trans (hb.mono HB.out.size)); clear HB hb ho; have HB := HB'; clear HB')
      | (go_at_call 12; (with_reducible refine (impl_Join.calls _ _ ws ⟨#[32]⟩ s _ ?side1 ?side2 a4).mono ?_); (case side1 => exact (Kd.R_reads' HW.out).2.2); (case side2 => exact (Kd.R_reads' HW.out).2.1); rintro e w6 ⟨rfl, hb⟩; have HB' := Aside0.mk (HB.out.trans (hb.mono HB.out.size)); clear HB hb HW; have HB := HB'; clear HB')
      | (go_at_call 14; (with_reducible refine (impl_IsName.calls k ⟨#[120, 49]⟩ true _ a5).mono ?_); rintro e w7 ⟨rfl, ⟨nd_, rfl⟩⟩)
      | (go_at_call 15; (with_reducible refine (impl_SplitLines.calls k ⟨#[97, 10, 98, 10]⟩ ls _ a6).mono ?_); rintro e w8 ⟨v_, rfl, ⟨⟨Ag, cc, cp, rfl, hcc, ho⟩⟩, hb⟩; have HB2 := Aside0.mk hb; clear hb ho))
    go_ret
    exact ⟨rfl, by first | exact (pw_below_drewN HB.out _).trans (HB2.out.mono HB.out.size) | exact HB.out.trans (HB2.out.mono HB.out.size)⟩
#print axioms laws_FnWords.calls
end Go.Proofs.YtbcndlfnmhmigaaDoor.G
