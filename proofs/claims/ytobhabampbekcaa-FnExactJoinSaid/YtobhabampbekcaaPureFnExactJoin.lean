/- The law FnExactJoin: both functions answer alike. No conditions. -/
import Derived.Test.YtobhabampbekcaaUFnExactJoin
namespace Go.Proofs.Ytobhabampbekcaa.Pure
open Go.RowKit Go.Proofs.Ytobhabampbekcaa.G Go.Proofs.YtobhabampbekcaaW.PrintWords Go.Proofs.YtobhabampbekcaaW.PrintLast Go.Proofs.YtobhabampbekcaaW.PrintMore
set_option linter.unusedSimpArgs false
set_option linter.unusedVariables false
theorem wrap_id {x : Int} (h0 : -9223372036854775808 ≤ x) (h1 : x ≤ 9223372036854775807) : wrap64 x = x := by unfold wrap64; omega
theorem rdB (l : List ByteArray) (i : Nat) (h : i < l.length) : rdOf ByteArray.empty l (i : Int) = l[i] := by
  simp [rdOf, List.getD_eq_getElem?_getD, List.getElem?_eq_getElem h]
theorem eqS_l0 (a : List ByteArray) (hl : a.length ≤ 9223372036854775807) (d : Nat) : ∀ (k i : Nat), i + d = a.length → d < k → laws_eqStringS.l0 k a a (i : Int) = some true := by
  induction d with
  | zero =>
    intro k i h hk
    obtain ⟨k, rfl⟩ : ∃ m, k = m + 1 := ⟨k - 1, by omega⟩
    simp only [laws_eqStringS.l0]; rw [if_neg (by omega)]
  | succ d ih =>
    intro k i h hk
    obtain ⟨k, rfl⟩ : ∃ m, k = m + 1 := ⟨k - 1, by omega⟩
    simp only [laws_eqStringS.l0]
    rw [if_pos (by omega), if_pos (by omega), if_pos (by omega), if_pos trivial, wrap_id (by omega) (by omega)]
    have := ih k (i + 1) (by omega) (by omega)
    push_cast at this
    exact this
theorem szS_l0 {l : List ByteArray} (hn : l.length ≤ 1048576) (hw : ∀ x ∈ l, x.size ≤ 9223372036854775807) (d : Nat) : ∀ (k i : Nat) (t : Int), i + d = l.length → d < k → 0 ≤ t → t ≤ 1048576 →
    ∃ r, laws_szStringS.l0 k l t (i : Int) = some r ∧ (0 ≤ r → ∀ x ∈ l.drop i, x.size ≤ 1048576) := by
  induction d with
  | zero =>
    intro k i t h hk h0 h1
    obtain ⟨k, rfl⟩ : ∃ m, k = m + 1 := ⟨k - 1, by omega⟩
    refine ⟨t, ?_, fun _ x hx => ?_⟩
    · simp only [laws_szStringS.l0]; rw [if_neg (by omega)]
    · rw [List.drop_of_length_le (by omega)] at hx; simp at hx
  | succ d ih =>
    intro k i t h hk h0 h1
    obtain ⟨k, rfl⟩ : ∃ m, k = m + 1 := ⟨k - 1, by omega⟩
    have hi : i < l.length := by omega
    have hx := hw l[i] (List.getElem_mem hi)
    have wt : wrap64 (t - (l[i].size : Int)) = t - (l[i].size : Int) := wrap_id (by omega) (by omega)
    simp only [laws_szStringS.l0]
    rw [if_pos (by omega), if_pos (by omega), rdB l i hi, wt, wrap_id (x := (i : Int) + 1) (by omega) (by omega)]
    by_cases c : t - (l[i].size : Int) < 0
    · rw [if_pos c]
      exact ⟨-1, rfl, fun h => by omega⟩
    · rw [if_neg c]
      obtain ⟨r, e, hr⟩ := ih k (i + 1) (t - (l[i].size : Int)) (by omega) (by omega) (by omega) (by omega)
      push_cast at e
      refine ⟨r, e, fun h x hx => ?_⟩
      rw [List.drop_eq_getElem_cons hi] at hx
      rcases List.mem_cons.1 hx with g | g
      · subst g; omega
      · exact hr h x g
theorem szS_eq {l : List ByteArray} (hl : l.length ≤ 9223372036854775807) (hw : ∀ x ∈ l, x.size ≤ 9223372036854775807) (k : Nat) (hk : 1048576 < k) :
    ∃ r, laws_szStringS.f k l 1048576 = some r ∧ (0 ≤ r → l.length ≤ 1048576 ∧ ∀ x ∈ l, x.size ≤ 1048576) := by
  have wt : wrap64 (1048576 - (l.length : Int)) = 1048576 - (l.length : Int) := wrap_id (by omega) (by omega)
  unfold laws_szStringS.f
  rw [wt]
  by_cases c : 1048576 - (l.length : Int) < 0
  · rw [if_pos c]; exact ⟨-1, rfl, fun h => by omega⟩
  · rw [if_neg c]
    obtain ⟨r, e, hr⟩ := szS_l0 (l := l) (by omega) hw l.length k 0 (1048576 - (l.length : Int)) (by omega) (by omega) (by omega) (by omega)
    exact ⟨r, e, fun h => ⟨by omega, fun x hx => hr h x (by simpa using hx)⟩⟩
theorem toB_l0 {l : List ByteArray} (z : ByteArray) (hn : l.length ≤ 1048576) (d : Nat) : ∀ (k i : Nat), i + d = l.length → d < k → laws_toStringS.l0 k l (l.take i ++ List.replicate d z) (i : Int) = some l := by
  induction d with
  | zero =>
    intro k i h hk
    obtain ⟨k, rfl⟩ : ∃ m, k = m + 1 := ⟨k - 1, by omega⟩
    have e : i = l.length := by omega
    subst e
    simp only [laws_toStringS.l0]; rw [if_neg (by omega)]; simp
  | succ d ih =>
    intro k i h hk
    obtain ⟨k, rfl⟩ : ∃ m, k = m + 1 := ⟨k - 1, by omega⟩
    have hi : i < l.length := by omega
    have hlen : (l.take i ++ List.replicate (d + 1) z).length = l.length := by simp; omega
    simp only [laws_toStringS.l0]
    rw [if_pos (by omega), if_pos (by omega), if_pos (by rw [hlen]; omega), rdB l i hi, wrap_id (by omega) (by omega), Int.toNat_natCast]
    have e1 : (l.take i ++ List.replicate (d + 1) z).set i l[i] = l.take (i + 1) ++ List.replicate d z := by
      have ht : (l.take i).length = i := by rw [List.length_take]; omega
      rw [List.set_append_right _ _ (by omega), ht, Nat.sub_self, List.replicate_succ, List.set_cons_zero, List.take_succ_eq_append_getElem hi, List.append_assoc]
      rfl
    rw [e1]
    have := ih k (i + 1) (by omega) (by omega)
    push_cast at this
    exact this
theorem toB_eq {l : List ByteArray} (hn : l.length ≤ 1048576) (k : Nat) (hk : 1048576 < k) : laws_toStringS.f k l = some l := by
  unfold laws_toStringS.f
  rw [if_pos (by omega), if_pos (by rw [Int.toNat_natCast]; omega), Int.toNat_natCast]
  have := toB_l0 (l := l) ⟨#[]⟩ hn l.length k 0 (by omega) (by omega)
  simpa using this
def gl (sep acc : ByteArray) (r : List ByteArray) : ByteArray := r.foldl (fun a x => (a ++ sep) ++ x) acc
theorem gl_data (sep : ByteArray) : ∀ (r : List ByteArray) (acc : ByteArray), (gl sep acc r).data.toList = acc.data.toList ++ Lib.joinTail sep.data.toList (r.map (·.data.toList))
  | [], acc => by simp [gl, Lib.joinTail]
  | x :: r, acc => by
    have := gl_data sep r ((acc ++ sep) ++ x)
    unfold gl at this ⊢
    rw [List.foldl_cons, this]
    simp [Lib.joinTail, ByteArray.data_append]
theorem gl_size (sep : ByteArray) (hs : sep.size ≤ 1048576) : ∀ (r : List ByteArray) (acc : ByteArray), (∀ x ∈ r, x.size ≤ 1048576) → (gl sep acc r).size ≤ acc.size + r.length * 2097152
  | [], acc, _ => by simp [gl]
  | x :: r, acc, h => by
    have := gl_size sep hs r ((acc ++ sep) ++ x) (fun y hy => h y (by simp [hy]))
    have hx := h x (by simp)
    unfold gl at this ⊢
    rw [List.foldl_cons]
    rw [ByteArray.size_append, ByteArray.size_append] at this
    rw [List.length_cons, Nat.succ_mul]
    omega
theorem join_l0 {l : List ByteArray} {sep : ByteArray} (hn : l.length ≤ 1048576) (hs : sep.size ≤ 1048576) (hw : ∀ x ∈ l, x.size ≤ 1048576) (d : Nat) : ∀ (k i : Nat) (acc : ByteArray), i + d = l.length → 0 < i → d < k → acc.size ≤ i * 2097152 →
    spec_Join.l0 k sep acc l (l.length : Int) (i : Int) = some (gl sep acc (l.drop i)) := by
  induction d with
  | zero =>
    intro k i acc h h0 hk ha
    obtain ⟨k, rfl⟩ : ∃ m, k = m + 1 := ⟨k - 1, by omega⟩
    simp only [spec_Join.l0]
    rw [if_neg (by omega), List.drop_of_length_le (by omega)]; rfl
  | succ d ih =>
    intro k i acc h h0 hk ha
    obtain ⟨k, rfl⟩ : ∃ m, k = m + 1 := ⟨k - 1, by omega⟩
    have hi : i < l.length := by omega
    have hx := hw l[i] (List.getElem_mem hi)
    have s1 : (acc ++ sep).size = acc.size + sep.size := ByteArray.size_append
    have s2 : ((acc ++ sep) ++ l[i]).size = acc.size + sep.size + l[i].size := by rw [ByteArray.size_append, s1]
    simp only [spec_Join.l0]
    rw [if_pos (by omega), if_pos (by omega), if_pos (by omega), if_pos (by omega), rdB l i hi, if_pos (by omega), s1, if_pos (by omega), wrap_id (by omega) (by omega)]
    have := ih k (i + 1) ((acc ++ sep) ++ l[i]) (by omega) (by omega) (by omega) (by rw [s2]; omega)
    push_cast at this
    rw [this, List.drop_eq_getElem_cons hi]
    rfl
theorem of_data {b : ByteArray} {L : List UInt8} (h : b.data.toList = L) : b = ⟨L.toArray⟩ := by
  apply ByteArray.ext
  rw [← h]
theorem both_Join {l : List ByteArray} {sep : ByteArray} (hn : l.length ≤ 1048576) (hs : sep.size ≤ 1048576) (hw : ∀ x ∈ l, x.size ≤ 1048576) (k : Nat) (hk : 2000000 < k) : ∃ r, spec_Join.f k l sep = some r ∧ impl_Join.f l sep = some r := by
  unfold spec_Join.f impl_Join.f strings_Join.f
  rw [if_pos (by omega)]
  obtain ⟨k, rfl⟩ : ∃ m, k = m + 1 := ⟨k - 1, by omega⟩
  match l, hn, hw with
  | [], _, _ =>
    refine ⟨⟨#[]⟩, ?_, ?_⟩
    · simp only [spec_Join.l0]; rw [if_neg (by simp)]
    · simp [Lib.join_nil]
  | x :: r, hn, hw =>
    have hx := hw x (by simp)
    have e0 : (⟨#[]⟩ : ByteArray) ++ x = x := by apply ByteArray.ext; rw [ByteArray.data_append]; simp
    have g := gl_data sep r x
    rw [← Lib.join_cons] at g
    have e : gl sep x r = ⟨(Lib.join ((x :: r).map (·.data.toList)) sep.data.toList).toArray⟩ := of_data (by rw [g]; rfl)
    have sz := gl_size sep hs r x (fun y hy => hw y (by simp [hy]))
    have len : (Lib.join ((x :: r).map (·.data.toList)) sep.data.toList).length = (gl sep x r).size := by rw [e]; rfl
    have hr : r.length ≤ 1048576 := by simp at hn; omega
    have hm : r.length * 2097152 ≤ 1048576 * 2097152 := Nat.mul_le_mul hr (Nat.le_refl _)
    refine ⟨gl sep x r, ?_, ?_⟩
    · simp only [spec_Join.l0]
      have z : ((0 : Nat) : Int) = 0 := rfl
      have r0 : rdOf ByteArray.empty (x :: r) 0 = x := rfl
      rw [if_pos (by simp), if_pos (by omega), if_pos (by simp), if_neg (by omega), r0, if_pos (by show 0 + x.size ≤ _; omega), e0, wrap_id (by omega) (by omega)]
      have := join_l0 (l := x :: r) (sep := sep) hn hs hw r.length k 1 x (by simp; omega) (by omega) (by omega) (by omega)
      simpa using this
    · rw [len, if_pos (by omega), Option.bind_some, e]
theorem FnExactJoin : laws_FnExactJoin.Pure := by
  intro l sep hl hw hs
  refine ⟨3000000, ?_⟩
  unfold laws_FnExactJoin.f
  by_cases h : (sep.size : Int) > 1048576
  · rw [if_pos h]
  · rw [if_neg h]
    obtain ⟨r, e, hr⟩ := szS_eq hl hw 3000000 (by omega)
    rw [e, Option.bind_some]
    by_cases c : r < 0
    · rw [if_pos c]
    · rw [if_neg c]
      obtain ⟨hn, hx⟩ := hr (by omega)
      obtain ⟨q, s1, s2⟩ := both_Join (l := l) (sep := sep) hn (by omega) hx 3000000 (by omega)
      have ts := toB_eq hn 3000000 (by omega)
      have es : laws_eqStringS.f 3000000 l l = some true := by
        unfold laws_eqStringS.f
        rw [if_pos rfl]
        exact eqS_l0 l (by omega) l.length 3000000 0 (by omega) (by omega)
      simp only [ts, s1, s2, es, Option.bind_some, if_true]
end Go.Proofs.Ytobhabampbekcaa.Pure
