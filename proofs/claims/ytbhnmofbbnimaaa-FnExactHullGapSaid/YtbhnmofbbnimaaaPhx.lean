/- The program's hull: the walk around. The bounds stand in each theorem. -/
import Derived.Test.YtbhnmofbbnimaaaPhw
import Derived.Test.YtbhnmofbbnimaaaF18
namespace Go.Proofs.Ytbhnmofbbnimaaa.G
open Go.RowKit Go.Proofs.YtbhnmofbbnimaaaW.PrintWords Go.Proofs.YtbhnmofbbnimaaaW.PrintLast Go.Proofs.YtbhnmofbbnimaaaW.PrintMore
set_option linter.unusedSimpArgs false
set_option linter.unusedVariables false
theorem impl_before_eq (p q : Pt) : impl_BeforePoint.f p.f0 p.f1 q.f0 q.f1 = some (decide (bef p q)) := by
  unfold impl_BeforePoint.f bef
  by_cases h : p.f1 < q.f1 <;> by_cases h' : p.f1 = q.f1 <;> simp [h, h']
theorem impl_square_eq {p q : Pt} (hp : okp p = true) (hq : okp q = true) : impl_square.f p.f0 p.f1 q.f0 q.f1 = some (sqP p q) := by
  rw [okp_iff] at hp hq
  have e1 := mul_bound (a := p.f0 - q.f0) (b := p.f0 - q.f0) (m := 40) (n := 40) (by omega) (by omega) (by omega) (by omega)
  have e2 := mul_bound (a := p.f1 - q.f1) (b := p.f1 - q.f1) (m := 40) (n := 40) (by omega) (by omega) (by omega) (by omega)
  unfold impl_square.f sqP
  rw [wrap64_id (x := p.f0 - q.f0) (by omega) (by omega), wrap64_id (x := p.f1 - q.f1) (by omega) (by omega), wrap64_id (x := (p.f0 - q.f0) * (p.f0 - q.f0)) (by omega) (by omega), wrap64_id (x := (p.f1 - q.f1) * (p.f1 - q.f1)) (by omega) (by omega), wrap64_id (by omega) (by omega)]
  congr 1; grind
/-- The first loop: the first point. -/
theorem hull_first {l : List Pt} (hn : l.length ≤ 30) (b : Bool) (k : Nat) (d : Nat) : ∀ (i : Nat) (f : Pt), i + d = l.length → f ∈ l → (∀ y ∈ l.take i, beq' f y) →
    ∃ f' ∈ l, (∀ y ∈ l, beq' f' y) ∧ impl_HullOf.l0 (k + d + 1) l b l (l.length : Int) (i : Int) f.f0 f.f1 = impl_HullOf.l1 k l b l (l.length : Int) 0 f'.f0 f'.f1 := by
  induction d with
  | zero =>
    intro i f h hf hm
    refine ⟨f, hf, by have e : i = l.length := by omega
                      subst e; simpa using hm, ?_⟩
    simp only [impl_HullOf.l0]
    rw [if_neg (by omega)]
  | succ d ih =>
    intro i f h hf hm
    have hi : i < l.length := by omega
    have e0 : k + (d + 1) + 1 = (k + d + 1) + 1 := by omega
    rw [e0]
    obtain ⟨K, hK⟩ : ∃ K, K = k + d + 1 := ⟨_, rfl⟩
    rw [← hK]
    simp only [impl_HullOf.l0]
    rw [if_pos (by omega), if_pos (by omega), if_pos (by omega), rdS l i hi, impl_before_eq, Option.bind_some, wrap64_id (by omega) (by omega), hK]
    by_cases hb : bef l[i] f
    · rw [if_pos (by simpa using hb)]
      have := ih (i + 1) l[i] (by omega) (List.getElem_mem hi) (fun y hy => by
        rw [List.take_succ_eq_append_getElem hi] at hy
        rcases List.mem_append.1 hy with g | g
        · exact Or.inr (bef_beq' hb (hm y g))
        · simp at g; exact Or.inl g.symm)
      push_cast at this
      exact this
    · rw [if_neg (by simpa using hb)]
      have := ih (i + 1) f (by omega) hf (fun y hy => by
        rw [List.take_succ_eq_append_getElem hi] at hy
        rcases List.mem_append.1 hy with g | g
        · exact hm y g
        · simp at g; subst g
          rcases bef_total l[i] f with q | q | q
          · exact absurd q hb
          · exact Or.inl q.symm
          · exact Or.inr q)
      push_cast at this
      exact this
/-- The second loop: are all points in a line with the first one? -/
theorem hull_flat2 {l : List Pt} (hok : ∀ p ∈ l, okp p = true) (hn : l.length ≤ 30) {f a : Pt} (hf : okp f = true) (ha : okp a = true) (j : Int) (k : Nat) (d : Nat) : ∀ (i : Nat) (b : Bool), i + d = l.length →
    impl_HullOf.l2 (k + d + 1) l b l (l.length : Int) j l (l.length : Int) (i : Int) f.f0 f.f1 a.f0 a.f1 = impl_HullOf.l1 k l (b && (l.drop i).all fun y => decide (crossP f a y = 0)) l (l.length : Int) (wrap64 (j + 1)) f.f0 f.f1 := by
  induction d with
  | zero =>
    intro i b h
    simp only [impl_HullOf.l2]
    rw [if_neg (by omega), List.drop_of_length_le (by omega)]; simp
  | succ d ih =>
    intro i b h
    have hi : i < l.length := by omega
    have hx : okp l[i] = true := hok _ (List.getElem_mem hi)
    have e0 : k + (d + 1) + 1 = (k + d + 1) + 1 := by omega
    rw [e0]
    obtain ⟨K, hK⟩ : ∃ K, K = k + d + 1 := ⟨_, rfl⟩
    rw [← hK]
    simp only [impl_HullOf.l2]
    rw [if_pos (by omega), if_pos (by omega), if_pos (by omega), rdS l i hi, impl_cross_eq (sm_ok hf).1 (sm_ok hf).2 (sm_ok ha).1 (sm_ok ha).2 (sm_ok hx).1 (sm_ok hx).2, Option.bind_some, wrap64_id (x := (i : Int) + 1) (by omega) (by omega), hK, List.drop_eq_getElem_cons hi, List.all_cons]
    have i1 := ih (i + 1) (crossI f.f0 f.f1 a.f0 a.f1 l[i].f0 l[i].f1 == 0) (by omega)
    have i2 := ih (i + 1) false (by omega)
    push_cast at i1 i2
    rw [i1, i2]
    cases b
    · simp
    · have e : (crossI f.f0 f.f1 a.f0 a.f1 l[i].f0 l[i].f1 == 0) = decide (crossP f a l[i] = 0) := Bool.eq_iff_iff.2 (by rw [beq_iff_eq, decide_eq_true_eq]; rfl)
      simp [e]
theorem hull_flat1 {l : List Pt} (hok : ∀ p ∈ l, okp p = true) (hn : l.length ≤ 30) {f : Pt} (hf : okp f = true) (d : Nat) : ∀ (k i : Nat) (b : Bool), i + d = l.length → d * 40 < k → ∃ k', k ≤ k' + d * 40 + 1 ∧
    impl_HullOf.l1 k l b l (l.length : Int) (i : Int) f.f0 f.f1 = if (b && (l.drop i).all fun a => l.all fun y => decide (crossP f a y = 0)) = true then some ([], false) else impl_HullOf.l3 k' l [f] f.f0 f.f1 := by
  induction d with
  | zero =>
    intro k i b h hk
    obtain ⟨k, rfl⟩ : ∃ m, k = m + 1 := ⟨k - 1, by omega⟩
    refine ⟨k, by omega, ?_⟩
    simp only [impl_HullOf.l1]
    rw [if_neg (by omega), List.drop_of_length_le (by omega)]; simp
  | succ d ih =>
    intro k i b h hk
    obtain ⟨k, rfl⟩ : ∃ m, k = m + 1 := ⟨k - 1, by omega⟩
    have hi : i < l.length := by omega
    have hx : okp l[i] = true := hok _ (List.getElem_mem hi)
    obtain ⟨k0, rfl⟩ : ∃ m, k = m + l.length + 1 := ⟨k - l.length - 1, by omega⟩
    obtain ⟨k', hk', e⟩ := ih k0 (i + 1) (b && l.all fun y => decide (crossP f l[i] y = 0)) (by omega) (by omega)
    refine ⟨k', by omega, ?_⟩
    obtain ⟨K, hK⟩ : ∃ K, K = k0 + l.length + 1 := ⟨_, rfl⟩
    rw [← hK]
    simp only [impl_HullOf.l1]
    rw [if_pos (by omega), if_pos (by omega), if_pos (by omega), rdS l i hi, hK]
    have := hull_flat2 hok hn hf hx (i : Int) k0 l.length 0 b (by omega)
    simp only [Int.ofNat_zero, List.drop_zero] at this
    rw [this, wrap64_id (by omega) (by omega), List.drop_eq_getElem_cons hi, List.all_cons]
    push_cast at e
    rw [e, Bool.and_assoc]
/-- The scan for the next corner. -/
theorem hull_scan {l : List Pt} (hok : ∀ p ∈ l, okp p = true) (hn : l.length ≤ 30) {u f : Pt} (hu : okp u = true) (out : List Pt) (k : Nat) (d : Nat) : ∀ (i : Nat) (nx : Pt), i + d = l.length → okp nx = true → ∀ k0, k + 2 * d ≤ k0 → ∃ k', k ≤ k' ∧
    impl_HullOf.l4 (k0 + 1) l out l (l.length : Int) (i : Int) f.f0 f.f1 u.f0 u.f1 nx.f0 nx.f1 = impl_HullOf.l4 (k' + 1) l out l (l.length : Int) (l.length : Int) f.f0 f.f1 u.f0 u.f1 ((l.drop i).foldl (scanF u) nx).f0 ((l.drop i).foldl (scanF u) nx).f1 := by
  induction d with
  | zero =>
    intro i nx h hnx k0 hk0
    refine ⟨k0, by omega, ?_⟩
    have e : i = l.length := by omega
    subst e
    rw [List.drop_length]; rfl
  | succ d ih =>
    intro i nx h hnx k0 hk0
    have hi : i < l.length := by omega
    have hx : okp l[i] = true := hok _ (List.getElem_mem hi)
    rw [List.drop_eq_getElem_cons hi, List.foldl_cons]
    obtain ⟨k1, rfl⟩ : ∃ m, k0 = m + 2 := ⟨k0 - 2, by omega⟩
    have go : ∀ (z : Pt) (m : Nat), scanF u nx l[i] = z → okp z = true → k + 2 * d ≤ m → ∃ k', k ≤ k' ∧ impl_HullOf.l4 (m + 1) l out l (l.length : Int) ((i : Int) + 1) f.f0 f.f1 u.f0 u.f1 z.f0 z.f1 = impl_HullOf.l4 (k' + 1) l out l (l.length : Int) (l.length : Int) f.f0 f.f1 u.f0 u.f1 ((l.drop (i + 1)).foldl (scanF u) (scanF u nx l[i])).f0 ((l.drop (i + 1)).foldl (scanF u) (scanF u nx l[i])).f1 := by
      intro z m e hz hm
      rw [e]
      have := ih (i + 1) z (by omega) hz m hm
      push_cast at this
      exact this
    have w1 : wrap64 ((i : Int) + 1) = (i : Int) + 1 := wrap64_id (by omega) (by omega)
    have cr : impl_cross.f u.f0 u.f1 nx.f0 nx.f1 l[i].f0 l[i].f1 = some (crossP u nx l[i]) := impl_cross_eq (sm_ok hu).1 (sm_ok hu).2 (sm_ok hnx).1 (sm_ok hnx).2 (sm_ok hx).1 (sm_ok hx).2
    have nb : (!(nx.f0 == u.f0) || (!(nx.f1 == u.f1))) = !decide (nx = u) := by rw [← beq_pt]; simp [Bool.not_and]
    have key : ∀ c : Int, (nx = u ∨ c = crossP u nx l[i]) → l[i] ≠ u → ∃ k', k ≤ k' ∧ impl_HullOf.j6 (k1 + 2) l out c l (l.length : Int) (i : Int) f.f0 f.f1 u.f0 u.f1 nx.f0 nx.f1 l[i].f0 l[i].f1 = impl_HullOf.l4 (k' + 1) l out l (l.length : Int) (l.length : Int) f.f0 f.f1 u.f0 u.f1 ((l.drop (i + 1)).foldl (scanF u) (scanF u nx l[i])).f0 ((l.drop (i + 1)).foldl (scanF u) (scanF u nx l[i])).f1 := by
      intro c hc hne
      obtain ⟨K, hK⟩ : ∃ K, K = k1 + 1 := ⟨_, rfl⟩
      rw [show k1 + 2 = K + 1 by omega]
      simp only [impl_HullOf.j6]
      rw [beq_pt, w1]
      by_cases c1 : nx = u
      · rw [if_pos (by simpa using c1), hK]
        exact go _ _ (by unfold scanF; rw [if_neg hne, if_pos (Or.inl c1)]) hx (by omega)
      · rw [if_neg (by simpa using c1)]
        have ec : c = crossP u nx l[i] := by
          rcases hc with h | h
          · exact absurd h c1
          · exact h
        rw [ec]
        by_cases c2 : crossP u nx l[i] < 0
        · rw [if_pos c2, hK]
          exact go _ _ (by unfold scanF; rw [if_neg hne, if_pos (Or.inr (Or.inl c2))]) hx (by omega)
        · rw [if_neg c2]
          by_cases c3 : crossP u nx l[i] = 0
          · rw [if_pos c3, impl_square_eq hu hx, Option.bind_some, impl_square_eq hu hnx, Option.bind_some]
            by_cases c4 : sqP u l[i] > sqP u nx
            · rw [if_pos c4, hK]
              exact go _ _ (by unfold scanF; rw [if_neg hne, if_pos (Or.inr (Or.inr ⟨c3, c4⟩))]) hx (by omega)
            · rw [if_neg c4, hK]
              refine go _ _ ?_ hnx (by omega)
              unfold scanF
              rw [if_neg hne, if_neg]
              rintro (q | q | ⟨_, q⟩)
              · exact c1 q
              · exact c2 q
              · exact c4 q
          · rw [if_neg c3, hK]
            refine go _ _ ?_ hnx (by omega)
            unfold scanF
            rw [if_neg hne, if_neg]
            rintro (q | q | ⟨q, _⟩)
            · exact c1 q
            · exact c2 q
            · exact c3 q
    obtain ⟨K, hK⟩ : ∃ K, K = k1 + 2 := ⟨_, rfl⟩
    rw [← hK]
    simp only [impl_HullOf.l4]
    rw [if_pos (by omega), if_pos (by omega), if_pos (by omega), rdS l i hi, beq_pt, nb]
    by_cases c0 : l[i] = u
    · rw [if_pos (by simpa using c0), w1, hK]
      exact go _ _ (by unfold scanF; rw [if_pos c0]) hnx (by omega)
    · rw [if_neg (by simpa using c0)]
      by_cases c1 : nx = u
      · rw [if_neg (by simp [c1]), hK]
        exact key 0 (Or.inl c1) c0
      · rw [if_pos (by simp [c1]), cr, Option.bind_some, hK]
        exact key _ (Or.inr rfl) c0
/-- The walk around. -/
theorem hull_walk {l : List Pt} (hok : ∀ p ∈ l, okp p = true) (hn : l.length ≤ 30) {f : Pt} (hf : f ∈ l) : ∀ (rest : List Pt) (u : Pt) (pre : List Pt) (k : Nat), Path l f u rest → u ∈ l → (rest.length + 1) * 100 < k → pre.length + rest.length ≤ 1000 →
    impl_HullOf.l3 k l (pre ++ [u]) f.f0 f.f1 = if (pre ++ u :: rest).length > 10 then some ([], false) else some (pre ++ u :: rest, true) := by
  intro rest
  induction rest with
  | nil =>
    intro u pre k hp hu hk hl
    obtain ⟨k, rfl⟩ : ∃ m, k = m + 1 := ⟨k - 1, by omega⟩
    have w1 : wrap64 (((pre ++ [u]).length : Int) - 1) = (pre.length : Int) := by rw [wrap64_id (by simp) (by simp; simp at hl; omega)]; simp
    have gu : rd_T44 (pre ++ [u]) (pre.length : Int) = u := by rw [rdS _ _ (by simp)]; simp
    simp only [impl_HullOf.l3]
    rw [w1, if_pos (by omega), if_pos (by simp; omega), gu]
    obtain ⟨k1, rfl⟩ : ∃ m, k = m + 1 := ⟨k - 1, by omega⟩
    obtain ⟨k', hk', e⟩ := hull_scan hok hn (f := f) (hok u hu) (pre ++ [u]) 0 l.length 0 u (by omega) (hok u hu) k1 (by simp at hk; omega)
    rw [show ((0 : Nat) : Int) = 0 from rfl, List.drop_zero, scanF_good hp l u (fun x hx => hx) (Or.inl rfl) (Or.inr hp.1)] at e
    rw [e]
    simp only [impl_HullOf.l4]
    rw [if_neg (by omega), beq_pt, if_pos (by simp)]
    by_cases c : (pre ++ [u]).length > 10
    · rw [if_pos (by omega), if_pos c]
    · rw [if_neg (by omega), if_neg c]
  | cons v rest ih =>
    intro u pre k hp hu hk hl
    obtain ⟨hg, hvf, hp'⟩ := hp
    obtain ⟨k, rfl⟩ : ∃ m, k = m + 1 := ⟨k - 1, by omega⟩
    have w1 : wrap64 (((pre ++ [u]).length : Int) - 1) = (pre.length : Int) := by rw [wrap64_id (by simp) (by simp; simp at hl; omega)]; simp
    have gu : rd_T44 (pre ++ [u]) (pre.length : Int) = u := by rw [rdS _ _ (by simp)]; simp
    simp only [impl_HullOf.l3]
    rw [w1, if_pos (by omega), if_pos (by simp; omega), gu]
    obtain ⟨k1, rfl⟩ : ∃ m, k = m + 1 := ⟨k - 1, by omega⟩
    simp only [List.length_cons] at hk hl
    have hl2 : (pre ++ [u]).length + rest.length ≤ 1000 := by rw [List.length_append, List.length_singleton]; omega
    obtain ⟨k', hk', e⟩ := hull_scan hok hn (f := f) (hok u hu) (pre ++ [u]) ((rest.length + 1) * 100 + 1) l.length 0 u (by omega) (hok u hu) k1 (by omega)
    rw [show ((0 : Nat) : Int) = 0 from rfl, List.drop_zero, scanF_good hg l u (fun x hx => hx) (Or.inl rfl) (Or.inr hg.1)] at e
    rw [e]
    simp only [impl_HullOf.l4]
    have lt : (pre ++ [u]).length < 8796093022208 := by rw [List.length_append, List.length_singleton]; omega
    have hvf' : ¬ (decide (v = f) = true) := by rw [decide_eq_true_eq]; exact hvf
    rw [if_neg (by omega), beq_pt, if_neg hvf', if_pos lt]
    rw [ih v (pre ++ [u]) k' hp' hg.1 (Nat.lt_of_succ_le hk') hl2]
    simp
end Go.Proofs.Ytbhnmofbbnimaaa.G
