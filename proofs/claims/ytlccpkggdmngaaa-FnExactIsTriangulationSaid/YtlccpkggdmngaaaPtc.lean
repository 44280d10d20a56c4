/- Counts of pairs: the list that a map of counts reads as, and a row of counts, agree. The bounds stand in each theorem. -/
import Derived.Test.YtlccpkggdmngaaaFA
import Derived.Test.YtlccpkggdmngaaaTmap
namespace Go.Proofs.Ytlccpkggdmngaaa.G
open Go.RowKit Go.Proofs.YtlccpkggdmngaaaW.PrintWords Go.Proofs.YtlccpkggdmngaaaW.PrintLast Go.Proofs.YtlccpkggdmngaaaW.PrintMore
set_option linter.unusedSimpArgs false
set_option linter.unusedVariables false
abbrev Cn := List ((Int × Int) × Int)
abbrev pr (a b : Nat) : Int × Int := ((a : Int), (b : Int))
theorem pr_inj {a b a' b' : Nat} (h : pr a b = pr a' b') : a = a' ∧ b = b' := by
  unfold pr at h
  injection h with h1 h2
  omega
/-- Each key once, a pair below n; each count from 1 to m. -/
def WfC (n m : Nat) (C : Cn) : Prop := (C.map (·.1)).Nodup ∧ ∀ p ∈ C, (∃ a b : Nat, a < b ∧ b < n ∧ p.1 = pr a b) ∧ 1 ≤ p.2 ∧ p.2 ≤ (m : Int)
theorem look_cases (C : Cn) (k : Int × Int) : (look C k = 0 ∧ ∀ p ∈ C, p.1 ≠ k) ∨ ∃ p ∈ C, p.1 = k ∧ look C k = p.2 := by
  induction C with
  | nil => exact .inl ⟨rfl, by simp⟩
  | cons a C ih =>
    by_cases h : a.1 = k
    · exact .inr ⟨a, List.mem_cons_self, h, by rw [look_cons, if_pos (by simpa using h)]⟩
    · have e : look (a :: C) k = look C k := by rw [look_cons, if_neg (by simpa using h)]
      rcases ih with ⟨h1, h2⟩ | ⟨p, h1, h2, h3⟩
      · refine .inl ⟨by rw [e, h1], fun p hp => ?_⟩
        rcases List.mem_cons.1 hp with rfl | hp
        · exact h
        · exact h2 p hp
      · exact .inr ⟨p, List.mem_cons_of_mem _ h1, h2, by rw [e, h3]⟩
theorem WfC.look_le {n m : Nat} {C : Cn} (h : WfC n m C) (k : Int × Int) : 0 ≤ look C k ∧ look C k ≤ (m : Int) := by
  rcases look_cases C k with ⟨h1, _⟩ | ⟨p, h1, _, h3⟩
  · rw [h1]; omega
  · rw [h3]; have := (h.2 p h1).2; omega
theorem look_map (C : Cn) (k k' : Int × Int) (v : Int) (hk : C.any (fun p => p.1 == k) = true) : look (C.map fun p => if p.1 == k then (k, v) else p) k' = if k' = k then v else look C k' := by
  induction C with
  | nil => simp at hk
  | cons a C ih =>
    rw [List.map_cons, look_cons, look_cons]
    by_cases h : (a.1 == k) = true
    · rw [if_pos h]
      have hak : a.1 = k := by simpa using h
      by_cases h' : k' = k
      · rw [if_pos h', if_pos (by simp [h'])]
      · rw [if_neg h', if_neg (by simpa using fun e => h' (by rw [e])), hak, if_neg (by simpa using fun e => h' (by rw [e]))]
        by_cases hC : C.any (fun p => p.1 == k) = true
        · rw [ih hC, if_neg h']
        · congr 1
          refine (List.map_congr_left fun p hp => ?_).trans (List.map_id C)
          rw [if_neg (fun e => hC (List.any_eq_true.2 ⟨p, hp, e⟩))]; rfl
    · rw [if_neg h]
      have hC : C.any (fun p => p.1 == k) = true := by
        obtain ⟨p, hp, e⟩ := List.any_eq_true.1 hk
        rcases List.mem_cons.1 hp with rfl | hp
        · exact absurd e h
        · exact List.any_eq_true.2 ⟨p, hp, e⟩
      by_cases h2 : (a.1 == k') = true
      · rw [if_pos h2, if_neg (fun e => h (by rw [← e]; exact h2)), if_pos h2]
      · rw [if_neg h2, ih hC, if_neg h2]
theorem look_snoc (C : Cn) (k k' : Int × Int) (v : Int) (hk : ∀ p ∈ C, p.1 ≠ k) : look (C ++ [(k, v)]) k' = if k' = k then v else look C k' := by
  induction C with
  | nil =>
    rw [List.nil_append, look_cons]
    by_cases h : k' = k
    · rw [if_pos h, if_pos (by simp [h])]
    · rw [if_neg h, if_neg (by simpa using fun e => h e.symm)]
  | cons a C ih =>
    rw [List.cons_append, look_cons, look_cons, ih (fun p hp => hk p (List.mem_cons_of_mem _ hp))]
    by_cases h2 : (a.1 == k') = true
    · have : a.1 = k' := by simpa using h2
      rw [if_pos h2, if_pos h2, if_neg (fun e => hk a List.mem_cons_self (this.trans e))]
    · rw [if_neg h2, if_neg h2]
theorem bump_any {C : Cn} {k : Int × Int} (h : C.any (fun p => p.1 == k) = true) : bump C k = C.map fun p => if p.1 == k then (k, wrap64 (look C k + 1)) else p := by
  unfold bump putC
  rw [if_pos h, List.map_map]
  refine List.map_congr_left fun p hp => ?_
  by_cases hk : p.1 = k
  · simp [hk]
  · simp [hk]
theorem bump_none {C : Cn} {k : Int × Int} (h : ∀ p ∈ C, p.1 ≠ k) : bump C k = C ++ [(k, wrap64 (look C k + 1))] := by
  have h' : ¬ C.any (fun p => p.1 == k) = true := fun e => by
    obtain ⟨p, hp, e⟩ := List.any_eq_true.1 e
    exact h p hp (by simpa using e)
  unfold bump putC
  rw [if_neg h', List.map_append]
  congr 1
  · refine (List.map_congr_left fun p hp => ?_).trans (List.map_id C)
    rw [if_neg (by simpa using h p hp)]; rfl
  · simp
theorem any_or (C : Cn) (k : Int × Int) : C.any (fun p => p.1 == k) = true ∨ ∀ p ∈ C, p.1 ≠ k := by
  by_cases h : C.any (fun p => p.1 == k) = true
  · exact .inl h
  · exact .inr fun p hp e => h (List.any_eq_true.2 ⟨p, hp, by simpa using e⟩)
theorem look_bump (C : Cn) (k k' : Int × Int) : look (bump C k) k' = if k' = k then wrap64 (look C k + 1) else look C k' := by
  rcases any_or C k with h | h
  · rw [bump_any h, look_map C k k' _ h]
  · rw [bump_none h, look_snoc C k k' _ h]
theorem mem_bump {C : Cn} {k : Int × Int} {p : (Int × Int) × Int} (hp : p ∈ bump C k) : p = (k, wrap64 (look C k + 1)) ∨ p ∈ C := by
  rcases any_or C k with h | h
  · rw [bump_any h] at hp
    obtain ⟨q, hq, e⟩ := List.mem_map.1 hp
    by_cases hk : (q.1 == k) = true
    · rw [if_pos hk] at e; exact .inl e.symm
    · rw [if_neg hk] at e; exact .inr (e ▸ hq)
  · rw [bump_none h] at hp
    rcases List.mem_append.1 hp with hp | hp
    · exact .inr hp
    · exact .inl (List.mem_singleton.1 hp)
theorem WfC.bump {n m : Nat} {C : Cn} (h : WfC n m C) (hm : m ≤ 1000000) {a b : Nat} (hab : a < b) (hb : b < n) : WfC n (m + 1) (bump C (pr a b)) := by
  have hl := h.look_le (pr a b)
  have hw : wrap64 (look C (pr a b) + 1) = look C (pr a b) + 1 := wrap64_id (by omega) (by omega)
  refine ⟨?_, fun p hp => ?_⟩
  · rcases any_or C (pr a b) with h2 | h2
    · rw [bump_any h2, List.map_map]
      have : C.map ((·.1) ∘ fun p => if p.1 == pr a b then (pr a b, wrap64 (look C (pr a b) + 1)) else p) = C.map (·.1) := List.map_congr_left fun p hp => by
        by_cases hk : (p.1 == pr a b) = true
        · simp only [Function.comp, if_pos hk]; exact (by simpa using hk : p.1 = pr a b).symm
        · simp only [Function.comp, if_neg hk]
      rw [this]; exact h.1
    · rw [bump_none h2, List.map_append, List.nodup_append]
      refine ⟨h.1, by simp, ?_⟩
      intro x hx y hy e
      obtain ⟨p, hp, rfl⟩ := List.mem_map.1 hx
      simp at hy
      exact h2 p hp (e.trans hy)
  · rcases mem_bump hp with rfl | hp
    · refine ⟨⟨a, b, hab, hb, rfl⟩, ?_, ?_⟩
      · show 1 ≤ wrap64 (look C (pr a b) + 1); rw [hw]; omega
      · show wrap64 (look C (pr a b) + 1) ≤ _; rw [hw]; push_cast; omega
    · have := h.2 p hp
      exact ⟨this.1, this.2.1, by have := this.2.2; push_cast; omega⟩
theorem WfC.mono {n m m' : Nat} {C : Cn} (h : WfC n m C) (hm : m ≤ m') : WfC n m' C := ⟨h.1, fun p hp => ⟨(h.2 p hp).1, (h.2 p hp).2.1, by have := (h.2 p hp).2.2; omega⟩⟩
theorem WfC.nil (n m : Nat) : WfC n m [] := ⟨by simp, by simp⟩
/-! ### The row of counts -/
def Rl (n : Nat) (C : Cn) (cs : List Int) : Prop := cs.length = n * n ∧ ∀ a b : Nat, a < b → b < n → rd cs ((a * n + b : Nat) : Int) = look C (pr a b)
theorem rd_get (x : List Int) (i : Nat) (h : i < x.length) : rd x (i : Int) = x[i] := by
  simp [rd, List.getD_eq_getElem?_getD, List.getElem?_eq_getElem h]
theorem idx_lt {n a b : Nat} (ha : a < n) (hb : b < n) : a * n + b < n * n := by
  have : (a + 1) * n ≤ n * n := Nat.mul_le_mul_right _ ha
  rw [Nat.succ_mul] at this
  omega
theorem idx_inj {n a b a' b' : Nat} (hb : b < n) (hb' : b' < n) (h : a * n + b = a' * n + b') : a = a' ∧ b = b' := by
  rcases Nat.lt_trichotomy a a' with h1 | h1 | h1
  · have : (a + 1) * n ≤ a' * n := Nat.mul_le_mul_right _ h1
    rw [Nat.succ_mul] at this; omega
  · subst h1; omega
  · have : (a' + 1) * n ≤ a * n := Nat.mul_le_mul_right _ h1
    rw [Nat.succ_mul] at this; omega
theorem Rl.bump {n : Nat} {C : Cn} {cs : List Int} (h : Rl n C cs) {a b : Nat} (hab : a < b) (hb : b < n) : Rl n (bump C (pr a b)) (cs.set (a * n + b) (wrap64 (rd cs ((a * n + b : Nat) : Int) + 1))) := by
  refine ⟨by rw [List.length_set]; exact h.1, fun x y hxy hy => ?_⟩
  have l1 := idx_lt (n := n) (show a < n by omega) hb
  have l2 := idx_lt (n := n) (show x < n by omega) hy
  rw [rd_get _ _ (by rw [List.length_set, h.1]; exact l2), look_bump, List.getElem_set]
  by_cases e : a * n + b = x * n + y
  · obtain ⟨rfl, rfl⟩ := idx_inj hb hy e
    rw [if_pos rfl, if_pos rfl, h.2 a b hab hb]
  · rw [if_neg e, if_neg (fun e2 => e (by obtain ⟨rfl, rfl⟩ := pr_inj e2; rfl)), ← rd_get _ _ (by rw [h.1]; exact l2), h.2 x y hxy hy]
theorem Rl.start (n : Nat) : Rl n [] (List.replicate (n * n) 0) := by
  refine ⟨by simp, fun a b hab hb => ?_⟩
  have := idx_lt (n := n) (show a < n by omega) hb
  rw [rd_get _ _ (by rw [List.length_replicate]; exact this)]
  simp [look]
/-! ### Sides -/
def sideK (n i : Nat) : Int × Int := if i + 1 = n then pr 0 (n - 1) else pr i (i + 1)
theorem sideK_inj {n i j : Nat} (hn : 3 ≤ n) (hi : i < n) (hj : j < n) (h : sideK n i = sideK n j) : i = j := by
  unfold sideK at h
  split at h <;> split at h <;> (have := pr_inj h; omega)
def dropN (C : Cn) (n : Nat) : Nat → Cn
  | 0 => C
  | i + 1 => dropC (dropN C n i) (sideK n i)
theorem mem_dropC {C : Cn} {k : Int × Int} {p : (Int × Int) × Int} : p ∈ dropC C k ↔ p ∈ C ∧ p.1 ≠ k := by
  unfold dropC; rw [List.mem_filter]; simp
theorem look_dropC {C : Cn} {k k' : Int × Int} (h : k' ≠ k) : look (dropC C k) k' = look C k' := by
  induction C with
  | nil => rfl
  | cons a C ih =>
    unfold dropC at ih ⊢
    rw [List.filter_cons, look_cons]
    by_cases hk : (a.1 == k) = true
    · have : a.1 = k := by simpa using hk
      rw [if_neg (by simp [hk]), ih, if_neg (by simpa using fun e => h (e.symm.trans this))]
    · rw [if_pos (by simp [hk]), look_cons, ih]
theorem look_dropN {C : Cn} {n : Nat} (hn : 3 ≤ n) {j : Nat} (hj : j < n) : ∀ i, i ≤ j → look (dropN C n i) (sideK n j) = look C (sideK n j)
  | 0, _ => rfl
  | i + 1, h => by
    rw [dropN, look_dropC (fun e => by have := sideK_inj hn hj (by omega) e; omega)]
    exact look_dropN hn hj i (by omega)
theorem mem_dropN {C : Cn} {n : Nat} {p : (Int × Int) × Int} : ∀ i, p ∈ dropN C n i ↔ p ∈ C ∧ ∀ j, j < i → p.1 ≠ sideK n j
  | 0 => by simp [dropN]
  | i + 1 => by
    rw [dropN, mem_dropC, mem_dropN i]
    constructor
    · rintro ⟨⟨h1, h2⟩, h3⟩
      refine ⟨h1, fun j hj => ?_⟩
      rcases Nat.lt_succ_iff_lt_or_eq.1 hj with h | rfl
      · exact h2 j h
      · exact h3
    · rintro ⟨h1, h2⟩
      exact ⟨⟨h1, fun j hj => h2 j (by omega)⟩, h2 i (by omega)⟩
def isSide (n a b : Nat) : Prop := b = a + 1 ∨ (a = 0 ∧ b + 1 = n)
instance (n a b : Nat) : Decidable (isSide n a b) := by unfold isSide; exact inferInstance
def goodC (n : Nat) (C : Cn) (a b : Nat) : Prop := (isSide n a b → look C (pr a b) = 1) ∧ (¬ isSide n a b → look C (pr a b) = 0 ∨ look C (pr a b) = 2)
theorem side_of {n a b : Nat} (hn : 3 ≤ n) (hab : a < b) (hb : b < n) (h : isSide n a b) : ∃ j, j < n ∧ pr a b = sideK n j := by
  rcases h with rfl | ⟨rfl, h⟩
  · exact ⟨a, by omega, by rw [sideK, if_neg (by omega)]⟩
  · exact ⟨n - 1, by omega, by rw [sideK, if_pos (by omega), show n - 1 = b by omega]⟩
theorem of_side {n j : Nat} (hn : 3 ≤ n) (hj : j < n) : ∃ a b, a < b ∧ b < n ∧ isSide n a b ∧ sideK n j = pr a b := by
  by_cases h : j + 1 = n
  · exact ⟨0, n - 1, by omega, by omega, .inr ⟨rfl, by omega⟩, by rw [sideK, if_pos h]⟩
  · exact ⟨j, j + 1, by omega, by omega, .inl rfl, by rw [sideK, if_neg h]⟩
/-- The program's question and the reference's. -/
theorem sides_iff {n m : Nat} {C : Cn} (h : WfC n m C) (hn : 3 ≤ n) : ((∀ j, j < n → look C (sideK n j) = 1) ∧ all2 (dropN C n n) = true) ↔ ∀ a b, a < b → b < n → goodC n C a b := by
  constructor
  · rintro ⟨h1, h2⟩ a b hab hb
    refine ⟨fun hs => ?_, fun hs => ?_⟩
    · obtain ⟨j, hj, e⟩ := side_of hn hab hb hs
      rw [e]; exact h1 j hj
    · rcases look_cases C (pr a b) with ⟨h3, _⟩ | ⟨p, h3, h4, h5⟩
      · exact .inl h3
      · right
        have hp : p ∈ dropN C n n := (mem_dropN n).2 ⟨h3, fun j hj e => by
          obtain ⟨x, y, _, _, hs', e'⟩ := of_side hn hj
          rw [h4, e'] at e
          obtain ⟨rfl, rfl⟩ := pr_inj e
          exact hs hs'⟩
        have := List.all_eq_true.1 h2 p hp
        rw [h5]; simpa using this
  · intro hg
    refine ⟨fun j hj => ?_, ?_⟩
    · obtain ⟨a, b, hab, hb, hs, e⟩ := of_side hn hj
      rw [e]; exact (hg a b hab hb).1 hs
    · rw [all2, List.all_eq_true]
      intro p hp
      obtain ⟨h3, h4⟩ := (mem_dropN n).1 hp
      obtain ⟨⟨a, b, hab, hb, e⟩, h5, _⟩ := h.2 p h3
      have hs : ¬ isSide n a b := fun hs => by
        obtain ⟨j, hj, e'⟩ := side_of hn hab hb hs
        exact h4 j hj (e.trans e')
      have hl := look_mem h.1 h3
      rw [e] at hl
      rcases (hg a b hab hb).2 hs with h6 | h6
      · omega
      · simp only [beq_iff_eq]; omega
end Go.Proofs.Ytlccpkggdmngaaa.G
