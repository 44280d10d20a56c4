/- The reference's hull: sorting, the two chains, and what they come to. The bounds stand in each theorem. -/
import Derived.Test.YtbhnmofbbnimaaaPhv
import Derived.Test.YtbhnmofbbnimaaaF45
import Derived.Test.YtbhnmofbbnimaaaF16
namespace Go.Proofs.Ytbhnmofbbnimaaa.G
open Go.RowKit Go.Proofs.YtbhnmofbbnimaaaW.PrintWords Go.Proofs.YtbhnmofbbnimaaaW.PrintLast Go.Proofs.YtbhnmofbbnimaaaW.PrintMore
set_option linter.unusedSimpArgs false
set_option linter.unusedVariables false
instance (p q : Pt) : Decidable (bef p q) := by unfold bef; exact inferInstance
theorem spec_before_eq (p q : Pt) : spec_BeforePoint.f p.f0 p.f1 q.f0 q.f1 = some (decide (bef p q)) := by
  unfold spec_BeforePoint.f bef
  by_cases h : p.f1 < q.f1 <;> by_cases h' : p.f1 = q.f1 <;> simp [h, h']
theorem rdS (l : List Pt) (i : Nat) (h : i < l.length) : rd_T44 l (i : Int) = l[i] := rd_at l i h
theorem beq_pt (p q : Pt) : (p.f0 == q.f0 && (p.f1 == q.f1)) = decide (p = q) := pt_beq p q
theorem sorted_ins {out : List Pt} {x : Pt} {j : Nat} (hs : Sorted' out) (hj : j < out.length) (hb : bef out[j] x) (ha : ∀ y ∈ out.drop (j + 1), bef x y) : Sorted' (out.take (j + 1) ++ x :: out.drop (j + 1)) := by
  have h0 : Sorted' (out.take (j + 1) ++ out.drop (j + 1)) := by rw [List.take_append_drop]; exact hs
  rw [sorted_append] at h0 ⊢
  obtain ⟨h1, h2, h3⟩ := h0
  have hlow : ∀ y ∈ out.take (j + 1), bef y x := by
    intro y hy
    rw [List.take_succ_eq_append_getElem hj] at h1 hy
    rw [sorted_append] at h1
    rcases List.mem_append.1 hy with g | g
    · exact bef_trans (h1.2.2 y g out[j] (by simp)) hb
    · simp at g; subst g; exact hb
  refine ⟨h1, ⟨ha, h2⟩, fun y hy z hz => ?_⟩
  rcases List.mem_cons.1 hz with g | g
  · subst g; exact hlow y hy
  · exact h3 y hy z g
theorem ins_mem {out : List Pt} {x y : Pt} {j : Nat} : y ∈ out.take j ++ x :: out.drop j ↔ y ∈ out ∨ y = x := by
  have : y ∈ out ↔ y ∈ out.take j ∨ y ∈ out.drop j := by rw [← List.mem_append, List.take_append_drop]
  rw [List.mem_append, List.mem_cons, this]
  constructor
  · rintro (h | h | h)
    · exact Or.inl (Or.inl h)
    · exact Or.inr h
    · exact Or.inl (Or.inr h)
  · rintro ((h | h) | h)
    · exact Or.inl h
    · exact Or.inr (Or.inr h)
    · exact Or.inr (Or.inl h)
theorem sort_l1 (l : List Pt) (n i : Int) (x : Pt) {out : List Pt} (hs : Sorted' out) (hn : out.length ≤ 1000) (k : Nat) : ∀ j : Nat, j ≤ out.length → (∀ y ∈ out.drop j, bef x y) →
    ∃ k' out', k ≤ k' ∧ spec_l04Sort.l1 (k + j + 1) out (j : Int) l n i x.f0 x.f1 = spec_l04Sort.l0 k' out' l n (wrap64 (i + 1)) ∧ Sorted' out' ∧ (∀ y, y ∈ out' ↔ y ∈ out ∨ y = x) ∧ out'.length ≤ out.length + 1 := by
  intro j
  induction j with
  | zero =>
    intro _ ha
    refine ⟨k, x :: out, Nat.le_refl k, ?_, ⟨by simpa using ha, hs⟩, fun y => by rw [List.mem_cons]; exact Or.comm, by simp⟩
    simp only [spec_l04Sort.l1]
    simp only [Option.bind_some, List.nil_append, List.length_nil, Int.toNat_zero, List.take_zero, List.drop_zero, Int.ofNat_zero]
    rw [if_neg (by omega), if_pos (by omega), if_pos (by omega), if_pos (by omega)]
    simp
    intro h; omega
  | succ j ih =>
    intro hj ha
    have hj' : j < out.length := by omega
    have w1 : wrap64 (((j + 1 : Nat) : Int) - 1) = (j : Int) := by rw [wrap64_id (by omega) (by omega)]; omega
    have e0 : k + (j + 1) + 1 = (k + j + 1) + 1 := by omega
    rw [e0]
    have eK : ∃ K, K = k + j + 1 := ⟨_, rfl⟩
    obtain ⟨K, hK⟩ := eK
    rw [← hK]
    simp only [spec_l04Sort.l1]
    rw [if_pos (by omega), w1, if_pos (by omega), if_pos (by omega), rdS out j hj', spec_before_eq, Option.bind_some, beq_pt]
    by_cases hb : bef x out[j]
    · rw [if_pos (by simpa using hb), hK]
      exact ih (by omega) fun y hy => by
        rw [List.drop_eq_getElem_cons hj'] at hy
        rcases List.mem_cons.1 hy with g | g
        · subst g; exact hb
        · exact ha y g
    · rw [if_neg (by simpa using hb)]
      by_cases he : out[j] = x
      · rw [if_pos (by simpa using he)]
        refine ⟨K, out, by omega, rfl, hs, fun y => ⟨Or.inl, ?_⟩, by omega⟩
        rintro (h | h)
        · exact h
        · subst h; rw [← he]; exact List.getElem_mem hj'
      · rw [if_neg (by simpa using he)]
        have hb' : bef out[j] x := by
          rcases bef_total x out[j] with g | g | g
          · exact absurd g hb
          · exact absurd g.symm he
          · exact g
        refine ⟨K, out.take (j + 1) ++ x :: out.drop (j + 1), by omega, ?_, sorted_ins hs hj' hb' ha, fun y => ins_mem, by simp; omega⟩
        simp only [Option.bind_some, List.nil_append, Int.toNat_natCast]
        rw [if_pos (by omega), if_pos (by omega), if_pos (by simp; omega), if_pos (by simp; omega), if_pos (by simp; omega)]
        simp
theorem sort_l0 {l : List Pt} (hn : l.length ≤ 30) (d : Nat) : ∀ (k i : Nat) (out : List Pt), i + d = l.length → d * 60 < k → Sorted' out → (∀ y, y ∈ out ↔ y ∈ l.take i) → out.length ≤ i →
    ∃ s, spec_l04Sort.l0 k out l (l.length : Int) (i : Int) = some s ∧ Sorted' s ∧ (∀ y, y ∈ s ↔ y ∈ l) ∧ s.length ≤ l.length := by
  induction d with
  | zero =>
    intro k i out h hk hs hm hl
    obtain ⟨k, rfl⟩ : ∃ m, k = m + 1 := ⟨k - 1, by omega⟩
    have e : i = l.length := by omega
    subst e
    refine ⟨out, ?_, hs, by simpa using hm, hl⟩
    simp only [spec_l04Sort.l0]
    rw [if_neg (by omega)]
  | succ d ih =>
    intro k i out h hk hs hm hl
    obtain ⟨k, rfl⟩ : ∃ m, k = m + 1 := ⟨k - 1, by omega⟩
    have hi : i < l.length := by omega
    simp only [spec_l04Sort.l0]
    rw [if_pos (by omega), if_pos (by omega), if_pos (by omega), rdS l i hi]
    obtain ⟨k0, rfl⟩ : ∃ m, k = m + out.length + 1 := ⟨k - out.length - 1, by omega⟩
    obtain ⟨k', out', hk', e, hs', hm', hl'⟩ := sort_l1 l (l.length : Int) (i : Int) l[i] hs (by omega) k0 out.length (Nat.le_refl _) (fun y hy => by simp at hy)
    rw [e, wrap64_id (by omega) (by omega)]
    have := ih k' (i + 1) out' (by omega) (by omega) hs' (fun y => by
      rw [hm', hm, List.take_succ_eq_append_getElem hi, List.mem_append, List.mem_singleton]) (by omega)
    push_cast at this
    exact this
theorem spec_sort_eq {l : List Pt} (hn : l.length ≤ 30) (k : Nat) (hk : 2000 < k) : ∃ s, spec_l04Sort.f k l = some s ∧ Sorted' s ∧ (∀ y, y ∈ s ↔ y ∈ l) ∧ s.length ≤ l.length := by
  have := sort_l0 hn l.length k 0 [] (by omega) (by omega) trivial (fun y => by simp) (by simp)
  simpa [spec_l04Sort.f] using this
theorem pushC_len (x : Pt) : ∀ st : List Pt, (pushC x st).length ≤ st.length + 1
  | [] => by simp [pushC]
  | [a] => by simp [pushC]
  | b :: a :: r => by
    unfold pushC
    split
    · have := pushC_len x (a :: r); simp at this ⊢; omega
    · simp
theorem pushC_mem (x : Pt) : ∀ (st : List Pt), ∀ y ∈ pushC x st, y = x ∨ y ∈ st
  | [], y, h => by simp [pushC] at h; exact Or.inl h
  | [a], y, h => by simp [pushC] at h; simpa using h
  | b :: a :: r, y, h => by
    unfold pushC at h
    split at h
    · rcases pushC_mem x (a :: r) y h with g | g
      · exact Or.inl g
      · exact Or.inr (by simp at g ⊢; exact Or.inr g)
    · simpa using h
theorem chain_l1 (l : List Pt) (n i : Int) {x : Pt} (hx : okp x = true) (k : Nat) : ∀ st : List Pt, (∀ y ∈ st, okp y = true) → st.length ≤ 1000 →
    ∃ k', k ≤ k' ∧ spec_l04Chain.l1 (k + st.length + 1) st.reverse l n i x.f0 x.f1 = spec_l04Chain.l0 k' (pushC x st).reverse l n (wrap64 (i + 1))
  | [], _, _ => by
    exact ⟨k, Nat.le_refl k, by simp [spec_l04Chain.l1, pushC]⟩
  | [a], _, _ => by
    exact ⟨k + 1, by omega, by simp [spec_l04Chain.l1, pushC]⟩
  | b :: a :: r, hok, hl => by
    have hlen : (b :: a :: r).reverse.length = r.length + 2 := by simp
    have e0 : k + (b :: a :: r).length + 1 = (k + (a :: r).length + 1) + 1 := by simp; omega
    have w2 : wrap64 (((b :: a :: r).reverse.length : Int) - 2) = (r.length : Int) := by rw [hlen, wrap64_id (by push_cast; omega) (by push_cast; simp at hl; omega)]; push_cast; omega
    have w1 : wrap64 (((b :: a :: r).reverse.length : Int) - 1) = ((r.length + 1 : Nat) : Int) := by rw [hlen, wrap64_id (by push_cast; omega) (by push_cast; simp at hl; omega)]; push_cast; omega
    have ga : (b :: a :: r).reverse[r.length]'(by rw [hlen]; omega) = a := by simp [List.getElem_append_left, List.getElem_append_right]
    have gb : (b :: a :: r).reverse[r.length + 1]'(by rw [hlen]; omega) = b := by simp [List.getElem_append_left, List.getElem_append_right]
    have ha := hok a (by simp)
    have hb := hok b (by simp)
    rw [e0]
    have eK : ∃ K, K = k + (a :: r).length + 1 := ⟨_, rfl⟩
    obtain ⟨K, hK⟩ := eK
    rw [← hK]
    simp only [spec_l04Chain.l1]
    rw [w2, w1, rdS _ r.length (by rw [hlen]; omega), rdS _ (r.length + 1) (by rw [hlen]; omega), ga, gb, hlen]
    rw [if_pos (by push_cast; omega), if_pos (by omega), if_pos (by push_cast; omega), if_pos (by omega), if_pos (by push_cast; omega), spec_cross_eq (sm_ok ha).1 (sm_ok ha).2 (sm_ok hb).1 (sm_ok hb).2 (sm_ok hx).1 (sm_ok hx).2, Option.bind_some]
    unfold pushC
    by_cases hc : crossP a b x ≤ 0
    · rw [if_pos (show crossI a.f0 a.f1 b.f0 b.f1 x.f0 x.f1 ≤ 0 from hc), if_pos hc, if_pos (by push_cast; omega)]
      have e1 : (b :: a :: r).reverse.take (((r.length + 1 : Nat) : Int)).toNat = (a :: r).reverse := by
        rw [Int.toNat_natCast, List.reverse_cons, List.take_left' (by simp)]
      rw [e1, hK]
      exact chain_l1 l n i hx k (a :: r) (fun y hy => hok y (by simp at hy ⊢; exact Or.inr hy)) (by simp at hl ⊢; omega)
    · rw [if_neg (show ¬ crossI a.f0 a.f1 b.f0 b.f1 x.f0 x.f1 ≤ 0 from hc), if_neg hc, if_pos (by simp at hl; omega)]
      exact ⟨K, by omega, by simp⟩
theorem chain_l0 {l : List Pt} (hok : ∀ p ∈ l, okp p = true) (hn : l.length ≤ 30) (d : Nat) : ∀ (k i : Nat) (st : List Pt), i + d = l.length → d * 60 < k → (∀ y ∈ st, okp y = true) → st.length ≤ i →
    spec_l04Chain.l0 k st.reverse l (l.length : Int) (i : Int) = some ((l.drop i).foldl (fun st x => pushC x st) st).reverse := by
  induction d with
  | zero =>
    intro k i st h hk _ _
    obtain ⟨k, rfl⟩ : ∃ m, k = m + 1 := ⟨k - 1, by omega⟩
    simp only [spec_l04Chain.l0]
    rw [if_neg (by omega), List.drop_of_length_le (by omega)]; rfl
  | succ d ih =>
    intro k i st h hk hs hl
    obtain ⟨k, rfl⟩ : ∃ m, k = m + 1 := ⟨k - 1, by omega⟩
    have hi : i < l.length := by omega
    have hxi : okp l[i] = true := hok _ (List.getElem_mem hi)
    simp only [spec_l04Chain.l0]
    rw [if_pos (by omega), if_pos (by omega), if_pos (by omega), rdS l i hi]
    obtain ⟨k0, rfl⟩ : ∃ m, k = m + st.length + 1 := ⟨k - st.length - 1, by omega⟩
    obtain ⟨k', hk', e⟩ := chain_l1 l (l.length : Int) (i : Int) hxi k0 st hs (by omega)
    rw [e, wrap64_id (by omega) (by omega), List.drop_eq_getElem_cons hi, List.foldl_cons]
    have := ih k' (i + 1) (pushC l[i] st) (by omega) (by omega) (fun y hy => by
      rcases pushC_mem _ _ y hy with g | g
      · subst g; exact hxi
      · exact hs y g) (by have := pushC_len l[i] st; omega)
    push_cast at this
    exact this
theorem spec_chain_eq {l : List Pt} (hok : ∀ p ∈ l, okp p = true) (hn : l.length ≤ 30) (k : Nat) (hk : 2000 < k) : spec_l04Chain.f k l = some (chainC l).reverse := by
  have := chain_l0 hok hn l.length k 0 [] (by omega) (by omega) (by simp) (by simp)
  simpa [spec_l04Chain.f, chainC] using this
theorem chainC_len : ∀ (l st : List Pt), (l.foldl (fun st x => pushC x st) st).length ≤ st.length + l.length
  | [], st => by simp
  | x :: l, st => by
    rw [List.foldl_cons]
    have h1 := chainC_len l (pushC x st)
    have h2 := pushC_len x st
    simp; omega
theorem hull_l0 {s : List Pt} (hok : ∀ p ∈ s, okp p = true) (hn : s.length ≤ 30) (hne : s ≠ []) (d : Nat) : ∀ (k : Nat), d ≤ s.length → d + 2001 < k →
    spec_l04Hull.l0 k s (chainC s).reverse (s.drop d).reverse ((d : Int) - 1) = some (hullC s) := by
  induction d with
  | zero =>
    intro k _ hk
    obtain ⟨k, rfl⟩ : ∃ m, k = m + 1 := ⟨k - 1, by omega⟩
    have hlen : ∀ l : List Pt, l ≠ [] → chainC l ≠ [] := by
      intro l hl e
      obtain ⟨m, x, rfl⟩ : ∃ m x, l = m ++ [x] := ⟨l.dropLast, l.getLast hl, (List.dropLast_concat_getLast hl).symm⟩
      rw [chainC_snoc] at e
      obtain ⟨r, hr⟩ := pushC_head x (chainC m)
      rw [hr] at e; cases e
    have tk : ∀ c : List Pt, c ≠ [] → c.length ≤ 60 → 0 ≤ wrap64 ((c.reverse.length : Int) - 1) ∧ wrap64 ((c.reverse.length : Int) - 1) ≤ (c.reverse.length : Int) ∧ c.reverse.take (wrap64 ((c.reverse.length : Int) - 1)).toNat = c.tail.reverse := by
      intro c hc hl
      match c, hc with
      | x :: c, _ =>
        have : wrap64 (((x :: c).reverse.length : Int) - 1) = (c.length : Int) := by
          rw [wrap64_id (by simp) (by simp at hl ⊢; omega)]; simp
        rw [this]
        refine ⟨by omega, by simp; omega, ?_⟩
        rw [Int.toNat_natCast, List.reverse_cons, List.take_left' (by simp)]; rfl
    have l1 := chainC_len s []
    have l2 := chainC_len s.reverse []
    simp only [List.length_nil, List.length_reverse] at l1 l2
    have q1 : (chainC s).length ≤ s.length := by unfold chainC; omega
    have q2 : (chainC s.reverse).length ≤ s.length := by unfold chainC; omega
    obtain ⟨a1, a2, a3⟩ := tk (chainC s) (hlen s hne) (by unfold chainC; omega)
    obtain ⟨b1, b2, b3⟩ := tk (chainC s.reverse) (hlen _ (by simpa using hne)) (by unfold chainC; omega)
    simp only [spec_l04Hull.l0]
    rw [if_neg (by omega), List.drop_zero, spec_chain_eq (fun p hp => hok p (by simpa using hp)) (by simpa using hn) k (by omega)]
    simp only [Option.bind_some, List.nil_append, a3, b3]
    rw [if_pos a1, if_pos a2, if_pos (by simp only [List.length_nil, List.length_reverse, List.length_tail]; omega), if_pos b1, if_pos b2, if_pos (by simp only [List.length_append, List.length_reverse, List.length_tail]; omega)]
    rfl
  | succ d ih =>
    intro k hd hk
    obtain ⟨k, rfl⟩ : ∃ m, k = m + 1 := ⟨k - 1, by omega⟩
    have hi : d < s.length := by omega
    have e : (((d + 1 : Nat) : Int) - 1) = (d : Int) := by push_cast; omega
    rw [e]
    simp only [spec_l04Hull.l0]
    rw [if_pos (by omega), if_pos (by omega), if_pos (by omega), if_pos (by simp; omega), rdS s d hi, wrap64_id (by omega) (by omega)]
    have := ih k (by omega) (by omega)
    rw [List.drop_eq_getElem_cons hi, List.reverse_cons] at this
    exact this
theorem spec_hull_eq {l : List Pt} (hok : ∀ p ∈ l, okp p = true) (hn : l.length ≤ 30) (k : Nat) (hk : 3000 < k) : ∃ s, Sorted' s ∧ (∀ y, y ∈ s ↔ y ∈ l) ∧ s.length ≤ 30 ∧ spec_l04Hull.f k l = some (if s.length < 3 then [] else hullC s) := by
  obtain ⟨s, e, hs, hm, hl⟩ := spec_sort_eq hn k (by omega)
  refine ⟨s, hs, hm, by omega, ?_⟩
  unfold spec_l04Hull.f
  rw [e, Option.bind_some]
  by_cases h3 : s.length < 3
  · rw [if_pos (by omega), if_pos h3]
  · have hoks : ∀ p ∈ s, okp p = true := fun p hp => hok p ((hm p).1 hp)
    rw [if_neg (by omega), if_neg h3, spec_chain_eq hoks (by omega) k (by omega), Option.bind_some, wrap64_id (by omega) (by omega)]
    have := hull_l0 hoks (by omega) (by intro e; subst e; simp at h3) s.length k (Nat.le_refl _) (by omega)
    simpa using this
theorem spec_HullOf_l0 {l : List Pt} (hn : l.length ≤ 30) (k0 : Nat) (hk0 : 3000 < k0) (R : List Pt × Bool) (hR : ∀ k, 3000 < k → (spec_l04Hull.f k l).bind (fun h => (spec_l01In.f (h.length : Int) 3 10).bind fun t => if t = true then some (h, true) else some (([] : List Pt), false)) = some R) (d : Nat) : ∀ (k i : Nat), i + d = l.length → 3000 + d < k →
    spec_HullOf.l0 (k + 1) l l (l.length : Int) (i : Int) = if (l.drop i).all okp = true then some R else some ([], false) := by
  induction d with
  | zero =>
    intro k i h hk
    simp only [spec_HullOf.l0]
    rw [if_neg (by omega), List.drop_of_length_le (by omega), hR k (by omega)]; rfl
  | succ d ih =>
    intro k i h hk
    have hi : i < l.length := by omega
    simp only [spec_HullOf.l0]
    rw [if_pos (by omega), if_pos (by omega), if_pos (by omega), rdS l i hi, spec_PointOk_eq, Option.bind_some, wrap64_id (by omega) (by omega), List.drop_eq_getElem_cons hi, List.all_cons]
    obtain ⟨k, rfl⟩ : ∃ m, k = m + 1 := ⟨k - 1, by omega⟩
    have ih' := ih k (i + 1) (by omega) (by omega)
    push_cast at ih'
    by_cases h1 : ok l[i].f0 l[i].f1 = true
    · rw [if_pos h1, ih']; simp [okp, h1]
    · rw [if_neg h1]; simp [okp, h1]
end Go.Proofs.Ytbhnmofbbnimaaa.G
