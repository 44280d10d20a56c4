/- The reference's points inside of a polygon, counted. The bounds stand in each theorem. -/
import Derived.Test.YtlfifpkigapabaaPvI
import Derived.Test.YtlfifpkigapabaaF29
import Derived.Test.YtlfifpkigapabaaF13
namespace Go.Proofs.Ytlfifpkigapabaa.G
open Go.RowKit Go.Proofs.YtlfifpkigapabaaW.PrintWords Go.Proofs.YtlfifpkigapabaaW.PrintLast Go.Proofs.YtlfifpkigapabaaW.PrintMore
set_option linter.unusedSimpArgs false
set_option linter.unusedVariables false
theorem boxS_l0 {l : List Pt} (hok : ∀ p ∈ l, okp p = true) (hn : l.length ≤ 1000000) (h0 : 0 < l.length) (d : Nat) : ∀ (k i : Nat) (a b c e : Int), i + d = l.length → d < k → 0 ≤ a → 0 ≤ b → c ≤ 40 → e ≤ 40 → a ≤ 40 → b ≤ 40 → 0 ≤ c → 0 ≤ e →
    (∀ j, j < i → a ≤ (pt l j).f0 ∧ b ≤ (pt l j).f1 ∧ (pt l j).f0 ≤ c ∧ (pt l j).f1 ≤ e) →
    ∃ lx ly hx hy : Int, spec_BoxOf.l0 k l (l.length : Int) (i : Int) a b c e = some (lx, ly, hx, hy, true) ∧ 0 ≤ lx ∧ 0 ≤ ly ∧ hx ≤ 40 ∧ hy ≤ 40 ∧ ∀ j, j < l.length → lx ≤ (pt l j).f0 ∧ ly ≤ (pt l j).f1 ∧ (pt l j).f0 ≤ hx ∧ (pt l j).f1 ≤ hy := by
  induction d with
  | zero =>
    intro k i a b c e hi hk a0 b0 c0 e0 _ _ _ _ hj
    obtain ⟨k, rfl⟩ : ∃ m, k = m + 1 := ⟨k - 1, by omega⟩
    obtain rfl : i = l.length := by omega
    simp only [spec_BoxOf.l0]
    rw [if_neg (by omega)]
    exact ⟨a, b, c, e, rfl, a0, b0, c0, e0, hj⟩
  | succ d ih =>
    intro k i a b c e hi hk a0 b0 c0 e0 a1 b1 c1 e1 hj
    obtain ⟨k, rfl⟩ : ∃ m, k = m + 1 := ⟨k - 1, by omega⟩
    have wi : wrap64 ((i : Int) + 1) = ((i + 1 : Nat) : Int) := by rw [wrap64_id (by omega) (by omega)]; rfl
    have p := pt_ok hok h0 i
    simp only [spec_BoxOf.l0]
    rw [wi, if_pos (by omega), if_pos (by omega), if_pos (by omega), rd_pt l i (by omega)]
    refine ih k (i + 1) _ _ _ _ (by omega) (by omega) (by unfold mn; omega) (by unfold mn; omega) (by unfold mx; omega) (by unfold mx; omega) (by unfold mn; omega) (by unfold mn; omega) (by unfold mx; omega) (by unfold mx; omega) (fun j h => ?_)
    by_cases hji : j = i
    · subst hji; unfold mn mx; omega
    · have := hj j (by omega); unfold mn mx; omega
theorem ins_val {l : List Pt} (hp : Poly l) (x y : Int) (hx : sm x) (hy : sm y) (k : Nat) (hk : 11 < k) : ∃ r s, spec_l03OnRim.f k l x y = some r ∧ spec_l03Inside.f k l x y = some s ∧ Pick.ins (vr l) l.length ⟨x, y⟩ = if r = true then 0 else if s = true then 1 else 0 := by
  classical
  obtain ⟨r, hr, hr'⟩ := spec_onrim_eq hp (x := ⟨x, y⟩) ⟨hx, hy⟩ k hk
  have hs := spec_inside_eq hp (x := ⟨x, y⟩) ⟨hx, hy⟩ k hk
  refine ⟨r, _, hr, hs, ?_⟩
  have ii := ins_iff hp ⟨x, y⟩
  show Pick.ind _ = _
  by_cases c : r = true
  · rw [if_pos c]
    exact Pick.ind_f (fun g => (ii.mp g).1 (hr'.1 c))
  · rw [if_neg c]
    have hn : ¬ ∃ j, j < l.length ∧ rimP l ⟨x, y⟩ j = true := fun g => c (hr'.2 g)
    rw [if_neg hn]
    by_cases c2 : par l ⟨x, y⟩ l.length = true
    · rw [if_pos c2]
      exact Pick.ind_t (ii.mpr ⟨hn, c2⟩)
    · rw [if_neg c2]
      exact Pick.ind_f (fun g => c2 (ii.mp g).2)
theorem row_l1 {l : List Pt} (hp : Poly l) (y lx ly hx hy : Int) (y0 : 0 ≤ y) (y1 : y ≤ 40) (x1 : hx ≤ 40) (d : Nat) : ∀ (k : Nat) (x c : Int), 0 ≤ x → x + d = hx + 1 → d + 20 < k → 0 ≤ c → c + d ≤ 1000000 →
    ∃ t : Int, 0 ≤ t ∧ t ≤ d ∧ t = Pick.iv (fun x => Pick.ins (vr l) l.length ⟨x, y⟩) x d ∧ spec_InnerPoints.l1 k l c y x lx ly hx hy = spec_InnerPoints.l0 (k - d - 1) l (c + t) (y + 1) lx ly hx hy := by
  induction d with
  | zero =>
    intro k x c hx0 hxd hk c0 c1
    obtain ⟨k, rfl⟩ : ∃ m, k = m + 1 := ⟨k - 1, by omega⟩
    refine ⟨0, by omega, by omega, rfl, ?_⟩
    simp only [spec_InnerPoints.l1]
    rw [if_neg (by omega), wrap64_id (by omega) (by omega), Int.add_zero]; rfl
  | succ d ih =>
    intro k x c hx0 hxd hk c0 c1
    obtain ⟨k, rfl⟩ : ∃ m, k = m + 1 := ⟨k - 1, by omega⟩
    obtain ⟨r, s, e1, e2, e3⟩ := ins_val hp x y (by unfold sm; omega) (by unfold sm; omega) k (by omega)
    have sp : Pick.iv (fun x => Pick.ins (vr l) l.length ⟨x, y⟩) x (d + 1) = Pick.ins (vr l) l.length ⟨x, y⟩ + Pick.iv (fun x => Pick.ins (vr l) l.length ⟨x, y⟩) (x + 1) d := by
      rw [Nat.add_comm d 1, Pick.iv_split]
      have : Pick.iv (fun x => Pick.ins (vr l) l.length ⟨x, y⟩) x 1 = Pick.ins (vr l) l.length ⟨x, y⟩ := by
        show 0 + Pick.ins (vr l) l.length ⟨x + ((0 : Nat) : Int), y⟩ = _
        rw [Int.zero_add, show x + ((0 : Nat) : Int) = x by omega]
      rw [this]; rfl
    simp only [spec_InnerPoints.l1]
    rw [if_pos (by omega), e1, Option.bind_some, wrap64_id (x := x + 1) (by omega) (by omega)]
    have go : ∀ (c' v : Int), v = Pick.ins (vr l) l.length ⟨x, y⟩ → 0 ≤ v → v ≤ 1 → c' = c + v → ∃ t : Int, 0 ≤ t ∧ t ≤ ((d + 1 : Nat) : Int) ∧ t = Pick.iv (fun x => Pick.ins (vr l) l.length ⟨x, y⟩) x (d + 1) ∧ spec_InnerPoints.l1 k l c' y (x + 1) lx ly hx hy = spec_InnerPoints.l0 (k + 1 - (d + 1) - 1) l (c + t) (y + 1) lx ly hx hy := by
      intro c' v hv v0 v1 hc
      obtain ⟨t, t0, t1, t2, t3⟩ := ih k (x + 1) c' (by omega) (by omega) (by omega) (by omega) (by omega)
      refine ⟨v + t, by omega, by omega, by rw [sp, ← hv, ← t2], ?_⟩
      rw [t3, hc, show k + 1 - (d + 1) - 1 = k - d - 1 by omega, Int.add_assoc]
    by_cases c1 : r = true
    · rw [if_pos c1]
      rw [if_pos c1] at e3
      exact go c 0 e3.symm (by omega) (by omega) (by omega)
    · rw [if_neg c1, e2, Option.bind_some]
      rw [if_neg c1] at e3
      by_cases c2 : s = true
      · rw [if_pos c2, wrap64_id (by omega) (by omega)]
        rw [if_pos c2] at e3
        exact go (c + 1) 1 e3.symm (by omega) (by omega) (by omega)
      · rw [if_neg c2]
        rw [if_neg c2] at e3
        exact go c 0 e3.symm (by omega) (by omega) (by omega)
theorem rows_l0 {l : List Pt} (hp : Poly l) (lx ly hx hy : Int) (x0 : 0 ≤ lx) (x1 : hx ≤ 40) (x2 : lx ≤ hx) (y1 : hy ≤ 40) (d : Nat) : ∀ (k : Nat) (y c : Int), 0 ≤ y → y + d = hy + 1 → d * 50 + 100 < k → 0 ≤ c → c + d * 50 ≤ 1000000 →
    spec_InnerPoints.l0 k l c y lx ly hx hy = some (c + Pick.bx (Pick.ins (vr l) l.length) lx y (hx + 1 - lx).toNat d) := by
  induction d with
  | zero =>
    intro k y c hy0 hyd hk c0 c1
    obtain ⟨k, rfl⟩ : ∃ m, k = m + 1 := ⟨k - 1, by omega⟩
    simp only [spec_InnerPoints.l0]
    rw [if_neg (by omega)]
    show some c = some (c + 0)
    rw [Int.add_zero]
  | succ d ih =>
    intro k y c hy0 hyd hk c0 c1
    obtain ⟨k, rfl⟩ : ∃ m, k = m + 1 := ⟨k - 1, by omega⟩
    have sp : Pick.bx (Pick.ins (vr l) l.length) lx y (hx + 1 - lx).toNat (d + 1) = Pick.iv (fun x => Pick.ins (vr l) l.length ⟨x, y⟩) lx (hx + 1 - lx).toNat + Pick.bx (Pick.ins (vr l) l.length) lx (y + 1) (hx + 1 - lx).toNat d := by
      unfold Pick.bx
      rw [Nat.add_comm d 1, Pick.iv_split]
      have : Pick.iv (fun y => Pick.iv (fun x => Pick.ins (vr l) l.length ⟨x, y⟩) lx (hx + 1 - lx).toNat) y 1 = Pick.iv (fun x => Pick.ins (vr l) l.length ⟨x, y⟩) lx (hx + 1 - lx).toNat := by
        show 0 + Pick.iv (fun x => Pick.ins (vr l) l.length ⟨x, y + ((0 : Nat) : Int)⟩) lx (hx + 1 - lx).toNat = _
        rw [Int.zero_add, show y + ((0 : Nat) : Int) = y by omega]
      rw [this]; rfl
    simp only [spec_InnerPoints.l0]
    rw [if_pos (by omega)]
    obtain ⟨t, t0, t1, t2, t3⟩ := row_l1 hp y lx ly hx hy hy0 (by omega) x1 (hx + 1 - lx).toNat k lx c x0 (by omega) (by omega) c0 (by omega)
    rw [t3, ih _ (y + 1) (c + t) (by omega) (by omega) (by omega) (by omega) (by omega), sp, ← t2, Int.add_assoc]
theorem both_InnerPoints (l : List Pt) (hl : l.length ≤ 1048576) (k : Nat) (hk : 1048576 < k) : ∃ r, spec_InnerPoints.f k l = some r ∧ impl_InnerPoints.f k l = some r := by
  by_cases hp : impl_PolygonOk.ok l = true
  · have hP := (impl_ok_iff _).1 hp
    have h3 := hP.n3
    have h10 := hP.n10
    have p0 := pt_ok hP.okp (show 0 < l.length by omega) 0
    obtain ⟨lx, ly, hx, hy, eb, a1, a2, a3, a4, a5⟩ := boxS_l0 hP.okp (by omega) (by omega) l.length k 0 (pt l 0).f0 (pt l 0).f1 (pt l 0).f0 (pt l 0).f1 (by omega) (by omega) p0.1 p0.2.2.1 p0.2.1 p0.2.2.2 p0.2.1 p0.2.2.2 p0.1 p0.2.2.1 (fun j h => by omega)
    have a6 : ∀ j, lx ≤ (pt l j).f0 ∧ ly ≤ (pt l j).f1 ∧ (pt l j).f0 ≤ hx ∧ (pt l j).f1 ≤ hy := fun j => by
      rw [pt_mod]; exact a5 _ (Nat.mod_lt _ (by omega))
    have b0 := a6 0
    have e1 : spec_InnerPoints.f k l = some (innerN l lx ly (hx + 1 - lx).toNat (hy + 1 - ly).toNat) := by
      unfold spec_InnerPoints.f spec_BoxOf.f
      rw [spec_PolygonOk_eq _ (by omega) _ (by omega)]
      simp only [Option.bind_some]
      have r0 : rd_T38 l 0 = pt l 0 := rd_pt l 0 (by omega)
      have eb' : spec_BoxOf.l0 k l (l.length : Int) 0 (pt l 0).f0 (pt l 0).f1 (pt l 0).f0 (pt l 0).f1 = some (lx, ly, hx, hy, true) := eb
      rw [if_pos hp, if_pos (by omega), r0, eb', Option.bind_some, if_pos rfl]
      have r := rows_l0 hP lx ly hx hy a1 a3 (by omega) a4 (hy + 1 - ly).toNat k ly 0 (by omega) (by omega) (by omega) (by omega) (by omega)
      rw [Int.zero_add] at r
      exact r
    have e2 := impl_inner hP (X := lx) (Y := ly) (w := (hx + 1 - lx).toNat) (h := (hy + 1 - ly).toNat) (fun j => by have := a6 j; omega) (fun j => by have := a6 j; omega) k (by omega)
    exact ⟨_, e1, e2⟩
  · unfold spec_InnerPoints.f spec_BoxOf.f impl_InnerPoints.f
    rw [spec_PolygonOk_eq _ (by omega) _ (by omega), impl_PolygonOk_some]
    simp only [Option.bind_some]
    rw [if_neg hp, if_neg hp]
    refine ⟨-1, ?_, rfl⟩
    rw [Option.bind_some, if_neg (by simp)]
end Go.Proofs.Ytlfifpkigapabaa.G
