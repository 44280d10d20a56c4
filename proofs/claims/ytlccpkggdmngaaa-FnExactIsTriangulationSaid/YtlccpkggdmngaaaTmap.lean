/- A map of counts, keyed by pairs, that the call made: what its operations do. -/
import Derived.Test.YtlccpkggdmngaaaG0
import Derived.Maps.Keyed
import Derived.Maps.RangeRun
import Derived.WideKeyPair
namespace Go.Proofs.Ytlccpkggdmngaaa.G
open Go.RowKit Go.Proofs.YtlccpkggdmngaaaW.PrintWords Go.Maps Go.WideMaps
theorem arr82 : ArrKey Try.prog 82 3 2 := ⟨Try.underlying82, by kernel_rfl, by kernel_rfl, by kernel_rfl⟩
theorem key82 : Keyed Try.prog 82 := Keyed.of_law arr82.law
def keyV (p : Int × Int) : Value := .agg #[.int .i64 p.1, .int .i64 p.2]
theorem keyV_inj {p q : Int × Int} (h : keyV p = keyV q) : p = q := by
  obtain ⟨a, b⟩ := p; obtain ⟨c, d⟩ := q
  simp [keyV] at h
  exact Prod.ext h.1 h.2
def wfP (p : Int × Int) : Prop := (Lit.int .i64 p.1).wf = true ∧ (Lit.int .i64 p.2).wf = true
theorem keyV_some {p : Int × Int} (h : wfP p) : ∃ l, keyOf Try.prog 82 (keyV p) = some l := ⟨_, keyOf_pair arr82 Try.underlying3 ⟨Try.prog.types.size - 1, by have : 82 < Try.prog.types.size := of_decide_eq_true (by kernel_rfl); omega⟩ h.1 h.2⟩
structure CtsOf (es : Array MapEntry) (clock : Nat) (L : List ((Int × Int) × Int)) : Prop where
  born : ∀ x ∈ es.toList, x.born < clock
  apart : (es.toList.map (·.born)).Nodup
  row : es.toList.map (fun e => (e.key, e.val)) = L.map (fun p => (keyV p.1, Value.int .i64 p.2))
  keys : (L.map (·.1)).Nodup
  wf : ∀ p ∈ L, wfP p.1
def Cts (b : Nat) (w : World) (L : List ((Int × Int) × Int)) : Prop := ∃ es clock, w.heap[b]? = some (.map es clock) ∧ CtsOf es clock L
def look (L : List ((Int × Int) × Int)) (k : Int × Int) : Int := ((L.find? fun p => p.1 == k).map (·.2)).getD 0
theorem look_mem {L : List ((Int × Int) × Int)} (hn : (L.map (·.1)).Nodup) {p : (Int × Int) × Int} (hp : p ∈ L) : look L p.1 = p.2 := by
  induction L with
  | nil => cases hp
  | cons a L ih =>
    rw [List.map_cons, List.nodup_cons] at hn
    rcases List.mem_cons.1 hp with rfl | h
    · simp [look]
    · have : a.1 ≠ p.1 := fun e => hn.1 (e ▸ List.mem_map_of_mem h)
      have hb : (a.1 == p.1) = false := beq_eq_false_iff_ne.mpr this
      have := ih hn.2 h
      simpa [look, List.find?_cons, hb] using this
theorem look_none {L : List ((Int × Int) × Int)} {k : Int × Int} (h : ∀ p ∈ L, p.1 ≠ k) : look L k = 0 := by
  have : L.find? (fun p => p.1 == k) = none := List.find?_eq_none.2 (fun p hp => by simpa using h p hp)
  simp [look, this]
theorem CtsOf.find {es : Array MapEntry} {clock : Nat} {L : List ((Int × Int) × Int)} (h : CtsOf es clock L) {k : Int × Int} (hk : wfP k) (w : World) :
    ((Instr.findKey 82 (keyV k) es.toList).run Try.prog w = .ok none w ∧ (∀ p ∈ L, p.1 ≠ k)) ∨
    ∃ j e n, (Instr.findKey 82 (keyV k) es.toList).run Try.prog w = .ok (some (j, .int .i64 n)) w ∧ es.toList[j]? = some e ∧ e.key = keyV k ∧ L[j]? = some (k, n) := by
  obtain ⟨l, hl⟩ := keyV_some hk
  have hrow : ∀ (j : Nat), es.toList[j]?.map (fun e => (e.key, e.val)) = L[j]?.map (fun p => (keyV p.1, Value.int .i64 p.2)) := fun j => by rw [← List.getElem?_map, ← List.getElem?_map, h.row]
  have hkeys : ∀ e ∈ es.toList, ∃ l, keyOf Try.prog 82 e.key = some l := fun e he => by
    obtain ⟨j, hj⟩ := List.getElem?_of_mem he
    have hr := hrow j
    rw [hj] at hr
    cases hL : L[j]? with
    | none => rw [hL] at hr; cases hr
    | some p =>
      rw [hL] at hr
      simp only [Option.map_some, Option.some.injEq, Prod.mk.injEq] at hr
      rw [hr.1]
      exact keyV_some (h.wf p (List.mem_of_getElem? hL))
  rcases key82.find w hl es.toList hkeys with ⟨h1, h2⟩ | ⟨j, e, h1, h2, h3⟩
  · refine .inl ⟨h1, fun p hp e => ?_⟩
    obtain ⟨j, hj⟩ := List.getElem?_of_mem hp
    have hr := hrow j
    rw [hj] at hr
    cases hE : es.toList[j]? with
    | none => rw [hE] at hr; cases hr
    | some x =>
      rw [hE] at hr
      simp only [Option.map_some, Option.some.injEq, Prod.mk.injEq] at hr
      exact h2 x (List.mem_of_getElem? hE) (by rw [hr.1, e])
  · have hr := hrow j
    rw [h2] at hr
    cases hL : L[j]? with
    | none => rw [hL] at hr; cases hr
    | some p =>
      rw [hL] at hr
      simp only [Option.map_some, Option.some.injEq, Prod.mk.injEq] at hr
      have : p.1 = k := keyV_inj (hr.1.symm.trans h3)
      obtain ⟨p1, n⟩ := p
      subst this
      exact .inr ⟨j, e, n, by rw [h1, hr.2], h2, h3, hL⟩
theorem Cts.lookup {b : Nat} {w : World} {L : List ((Int × Int) × Int)} (h : Cts b w L) {k : Int × Int} (hk : wfP k) : (Instr.lookup 81 (.map (some b)) (keyV k) false).run Try.prog w = .ok (.int .i64 (look L k)) w := by
  obtain ⟨es, clock, hb, hC⟩ := h
  obtain ⟨l, hl⟩ := keyV_some hk
  have hz : (zeroValue 3).run Try.prog w = .ok (.int .i64 0) w := by kernel_rfl
  rcases hC.find hk w with ⟨h1, h2⟩ | ⟨j, e, n, h1, h2, h3, h4⟩
  · rw [look_none h2]
    simp [Instr.lookup, run_underlying Try.underlying81, MapKept.run_getObj_map hb, key82.check w _ hl, h1, hz, Result.andThen]
  · rw [show look L k = n from look_mem hC.keys (List.mem_of_getElem? h4)]
    simp [Instr.lookup, run_underlying Try.underlying81, MapKept.run_getObj_map hb, key82.check w _ hl, h1, Result.andThen]
theorem heap_set' {w : World} {r : Nat} {o o' : Obj} (hb : w.heap[r]? = some o) : ({ w with heap := w.heap.setIfInBounds r o' } : World).heap[r]? = some o' := (MapKept.heap_set hb).1
/-- The entry of a key, with what is stored in it. -/
def putC (L : List ((Int × Int) × Int)) (k : Int × Int) (n : Int) : List ((Int × Int) × Int) := if L.any (fun p => p.1 == k) then L.map (fun p => if p.1 == k then (k, n) else p) else L ++ [(k, n)]
theorem Cts.entry {b : Nat} {w : World} {L : List ((Int × Int) × Int)} (h : Cts b w L) {k : Int × Int} (hk : wfP k) : ∃ (m : Nat) (w1 : World), (Instr.mapEntry 81 (.map (some b)) (keyV k)).run Try.prog w = .ok (.tuple #[.int .i64 (look L k), goInt m]) w1 ∧ w.grownBy w1 (some b) ∧ w1.heap.size = w.heap.size ∧
    ∃ es clock, w1.heap[b]? = some (.map es clock) ∧ CtsOf es clock (putC L k (look L k)) ∧ ∃ (j : Nat) (e : MapEntry), es.toList[j]? = some e ∧ e.born = m ∧ e.key = keyV k := by
  obtain ⟨es, clock, hb, hC⟩ := h
  obtain ⟨l, hl⟩ := keyV_some hk
  have hz : (zeroValue 3).run Try.prog w = .ok (.int .i64 0) w := by kernel_rfl
  have hgrow : ∀ o', w.grownBy { w with heap := w.heap.setIfInBounds b o' } (some b) := fun o' => ⟨rfl, rfl, rfl, by simp, fun i _ hi => (MapKept.heap_set hb).2 i (fun e => hi (by rw [e]))⟩
  rcases hC.find hk w with ⟨h1, h2⟩ | ⟨j, e, n, h1, h2, h3, h4⟩
  · have hp : L.any (fun p => p.1 == k) = false := by rw [List.any_eq_false]; intro p hp; simpa using h2 p hp
    refine ⟨clock, { w with heap := w.heap.setIfInBounds b (.map (es.push ⟨keyV k, .int .i64 0, clock⟩) (clock + 1)) }, ?_, hgrow _, by simp, _, _, heap_set' hb, ?_, es.toList.length, ⟨keyV k, .int .i64 0, clock⟩, by simp, rfl, rfl⟩
    · rw [look_none h2]
      simp [Instr.mapEntry, run_underlying Try.underlying81, MapKept.run_getObj_map hb, MapKept.run_setObj_map _ hb, key82.check w _ hl, h1, hz, Result.andThen]
    · rw [putC, hp, look_none h2]
      refine ⟨?_, ?_, ?_, ?_, ?_⟩
      · intro x hx
        rw [Array.toList_push] at hx
        rcases List.mem_append.1 hx with h | h
        · have := hC.born x h; omega
        · obtain rfl := List.mem_singleton.1 h; simp
      · rw [Array.toList_push, List.map_append, List.nodup_append]
        refine ⟨hC.apart, by simp, ?_⟩
        intro a ha c hc
        obtain ⟨x, hx, rfl⟩ := List.mem_map.1 ha
        have := hC.born x hx
        simp at hc
        omega
      · simp [hC.row]
      · simp only [Bool.false_eq_true, if_false, List.map_append, List.nodup_append]
        refine ⟨hC.keys, by simp, ?_⟩
        intro a ha c hc
        obtain ⟨p, hp', rfl⟩ := List.mem_map.1 ha
        simp at hc
        rw [hc]
        exact h2 p hp'
      · intro p hp'
        rcases List.mem_append.1 (by simpa using hp' : p ∈ L ++ [(k, 0)]) with h | h
        · exact hC.wf p h
        · obtain rfl := List.mem_singleton.1 h; exact hk
  · have hj : es[j]? = some e := by simpa using h2
    have hn : look L k = n := look_mem hC.keys (List.mem_of_getElem? h4)
    have hsame : (es.modify j fun e => { e with key := keyV k }) = es := by
      apply Array.ext_getElem?
      intro i
      rw [Array.getElem?_modify]
      split
      · rename_i hij; subst hij; rw [hj]; simp [← h3]
      · rfl
    have hput : putC L k n = L := by
      unfold putC
      rw [if_pos (List.any_eq_true.2 ⟨(k, n), List.mem_of_getElem? h4, by simp⟩)]
      refine (List.map_congr_left fun p hp => ?_).trans (List.map_id L)
      by_cases hpk : p.1 = k
      · rw [if_pos (by simpa using hpk)]
        have := look_mem hC.keys hp
        rw [hpk, hn] at this
        exact Prod.ext hpk.symm this
      · rw [if_neg (by simpa using hpk)]; rfl
    refine ⟨e.born, { w with heap := w.heap.setIfInBounds b (.map es clock) }, ?_, hgrow _, by simp, _, _, heap_set' hb, ?_, j, e, h2, rfl, h3⟩
    · rw [hn]
      have hst := key82.stays w hl
      simp [Instr.mapEntry, run_underlying Try.underlying81, MapKept.run_getObj_map hb, MapKept.run_setObj_map _ hb, key82.check w _ hl, h1, hj, h3, hst, hsame, Result.andThen]
    · rw [hn, hput]; exact hC
/-- What entryStore does to the entry that mapEntry gave. -/
theorem CtsOf.store {b : Nat} {w : World} {es : Array MapEntry} {clock m : Nat} {L : List ((Int × Int) × Int)} {k : Int × Int} (hb : w.heap[b]? = some (.map es clock)) (hC : CtsOf es clock L) {j : Nat} {e : MapEntry} (hj : es.toList[j]? = some e) (hm : e.born = m) (he : e.key = keyV k) (n : Int) :
    ∃ w1, (Instr.entryStore 81 (.map (some b)) (goInt m) (.int .i64 n)).run Try.prog w = .ok () w1 ∧ w.grownBy w1 (some b) ∧ w1.heap.size = w.heap.size ∧ Cts b w1 (L.map fun p => if p.1 == k then (k, n) else p) := by
  have hgrow : ∀ o', w.grownBy { w with heap := w.heap.setIfInBounds b o' } (some b) := fun o' => ⟨rfl, rfl, rfl, by simp, fun i _ hi => (MapKept.heap_set hb).2 i (fun e => hi (by rw [e]))⟩
  have hlt : j < es.toList.length := (List.getElem?_eq_some_iff.1 hj).1
  have hfi : es.findIdx? (fun x => (x.born : Int) == (m : Int)) = some j := by
    have hlt' : j < es.size := by simpa using hlt
    have hje : es[j] = e := by
      have := (List.getElem?_eq_some_iff.1 hj).2; simpa using this
    rw [Array.findIdx?_eq_some_iff_getElem]
    refine ⟨hlt', by simp [hje, hm], fun i hi => ?_⟩
    have hne : (es.toList.map (·.born))[i]'(by simp; omega) ≠ (es.toList.map (·.born))[j]'(by simp; omega) := fun e2 => by
      have := (List.getElem_inj hC.apart).1 e2; omega
    simp only [List.getElem_map, Array.getElem_toList, hje, hm] at hne
    simp; omega
  refine ⟨{ w with heap := w.heap.setIfInBounds b (.map (es.modify j fun x => { x with val := .int .i64 n }) clock) }, ?_, hgrow _, by simp, _, _, heap_set' hb, ?_⟩
  · simp [Instr.entryStore, MapKept.run_getObj_map hb, MapKept.run_setObj_map _ hb, goInt, asInt, asIntOf, hfi, Result.andThen]
  · have hrow : ∀ (i : Nat), es.toList[i]?.map (fun e => (e.key, e.val)) = L[i]?.map (fun p => (keyV p.1, Value.int .i64 p.2)) := fun i => by rw [← List.getElem?_map, ← List.getElem?_map, hC.row]
    have hL : ∃ n0, L[j]? = some (k, n0) := by
      have hr := hrow j
      rw [hj] at hr
      cases hL : L[j]? with
      | none => rw [hL] at hr; cases hr
      | some p =>
        rw [hL] at hr
        simp only [Option.map_some, Option.some.injEq, Prod.mk.injEq] at hr
        have : p.1 = k := keyV_inj (hr.1.symm.trans he)
        exact ⟨p.2, by rw [← this]⟩
    obtain ⟨n0, hL⟩ := hL
    have hkeys : (L.map fun p => if p.1 == k then (k, n) else p).map (·.1) = L.map (·.1) := by
      rw [List.map_map]
      refine List.map_congr_left fun p hp => ?_
      by_cases hpk : p.1 = k
      · simp [hpk]
      · simp [hpk]
    have hborn : ((es.modify j fun x => { x with val := .int .i64 n }).toList.map (·.born)) = es.toList.map (·.born) := by
      apply List.ext_getElem?
      intro i
      rw [List.getElem?_map, List.getElem?_map, Array.getElem?_toList, Array.getElem?_toList, Array.getElem?_modify]
      split
      · cases es[i]? <;> rfl
      · rfl
    refine ⟨?_, by rw [hborn]; exact hC.apart, ?_, by rw [hkeys]; exact hC.keys, ?_⟩
    · intro x hx
      have : x.born ∈ (es.modify j fun x => { x with val := .int .i64 n }).toList.map (·.born) := List.mem_map_of_mem hx
      rw [hborn] at this
      obtain ⟨y, hy, hyb⟩ := List.mem_map.1 this
      rw [← hyb]; exact hC.born y hy
    · apply List.ext_getElem?
      intro i
      have hr := hrow i
      rw [List.getElem?_map, List.getElem?_map, List.getElem?_map, Array.getElem?_toList, Array.getElem?_modify]
      rw [Array.getElem?_toList] at hr
      split
      · rename_i hij
        subst hij
        rw [hL]
        have : es[j]? = some e := by simpa using hj
        rw [this]; simp [he]
      · rename_i hij
        cases hLi : L[i]? with
        | none => rw [hLi] at hr; simpa using hr
        | some p =>
          have hpk : p.1 ≠ k := fun e2 => by
            have q1 : (L.map (·.1))[i]? = some k := by rw [List.getElem?_map, hLi]; simp [e2]
            have q2 : (L.map (·.1))[j]? = some k := by rw [List.getElem?_map, hL]; rfl
            exact hij ((List.getElem?_inj (List.getElem?_eq_some_iff.1 q2).1 hC.keys).1 (q2.trans q1.symm))
          rw [hLi] at hr
          simpa [hpk] using hr
    · intro p hp
      obtain ⟨q, hq, rfl⟩ := List.mem_map.1 hp
      by_cases hqk : q.1 = k
      · have := hC.wf q hq; rw [hqk] at this; simpa [hqk] using this
      · simpa [hqk] using hC.wf q hq
def dropC (L : List ((Int × Int) × Int)) (k : Int × Int) : List ((Int × Int) × Int) := L.filter fun p => !(p.1 == k)
theorem erase_dropC {L : List ((Int × Int) × Int)} (hn : (L.map (·.1)).Nodup) {k : Int × Int} {n : Int} : ∀ {j : Nat}, L[j]? = some (k, n) → L.eraseIdx j = dropC L k := by
  induction L with
  | nil => intro j h; simp at h
  | cons a L ih =>
    rw [List.map_cons, List.nodup_cons] at hn
    intro j h
    cases j with
    | zero =>
      simp at h
      subst h
      simp only [List.eraseIdx_zero, List.tail_cons, dropC, List.filter_cons, beq_self_eq_true, Bool.not_true, Bool.false_eq_true, if_false]
      refine (List.filter_eq_self.2 fun p hp => ?_).symm
      have : p.1 ≠ k := fun e => hn.1 (by show k ∈ _; rw [← e]; exact List.mem_map_of_mem (f := (·.1)) hp)
      simpa using this
    | succ j =>
      have h' : L[j]? = some (k, n) := by simpa using h
      have : a.1 ≠ k := fun e => hn.1 (by rw [e]; exact List.mem_map_of_mem (f := (·.1)) (List.mem_of_getElem? h'))
      have hb : (!(a.1 == k)) = true := by simpa using this
      have := ih hn.2 h'
      simp only [List.eraseIdx_cons_succ, dropC, List.filter_cons, hb, if_true] at this ⊢
      rw [this]
theorem Cts.delete {b ty : Nat} {w : World} {L : List ((Int × Int) × Int)} (h : Cts b w L) {k : Int × Int} (hk : wfP k) : ∃ w1, (Builtin.delete_ #[81, 82] ty #[.map (some b), keyV k]).run Try.prog w = .ok (.tuple #[]) w1 ∧ w.grownBy w1 (some b) ∧ w1.heap.size = w.heap.size ∧ Cts b w1 (dropC L k) := by
  obtain ⟨es, clock, hb, hC⟩ := h
  obtain ⟨l, hl⟩ := keyV_some hk
  have hgrow : ∀ o', w.grownBy { w with heap := w.heap.setIfInBounds b o' } (some b) := fun o' => ⟨rfl, rfl, rfl, by simp, fun i _ hi => (MapKept.heap_set hb).2 i (fun e => hi (by rw [e]))⟩
  rcases hC.find hk w with ⟨h1, h2⟩ | ⟨j, e, n, h1, h2, h3, h4⟩
  · have hd : dropC L k = L := List.filter_eq_self.2 fun p hp => by simpa using h2 p hp
    refine ⟨{ w with heap := w.heap.setIfInBounds b (.map es clock) }, ?_, hgrow _, by simp, _, _, heap_set' hb, by rw [hd]; exact hC⟩
    simp [Builtin.delete_, run_underlying Try.underlying81, MapKept.run_getObj_map hb, MapKept.run_setObj_map _ hb, key82.check w _ hl, h1, Result.andThen]
  · have hlt : j < es.size := by have := (List.getElem?_eq_some_iff.1 h2).1; simpa using this
    refine ⟨{ w with heap := w.heap.setIfInBounds b (.map (es.eraseIdxIfInBounds j) clock) }, ?_, hgrow _, by simp, _, _, heap_set' hb, ?_⟩
    · simp [Builtin.delete_, run_underlying Try.underlying81, MapKept.run_getObj_map hb, MapKept.run_setObj_map _ hb, key82.check w _ hl, h1, Result.andThen]
    · have he : (es.eraseIdxIfInBounds j).toList = es.toList.eraseIdx j := by rw [Array.eraseIdxIfInBounds, dif_pos hlt, Array.toList_eraseIdx]
      have hs : ((dropC L k).Sublist L) := List.filter_sublist
      refine ⟨?_, ?_, ?_, hC.keys.sublist (hs.map _), fun p hp => hC.wf p (hs.subset hp)⟩
      · rw [he]; exact fun x hx => hC.born x ((List.eraseIdx_sublist _ _).subset hx)
      · rw [he]; exact hC.apart.sublist ((List.eraseIdx_sublist _ _).map _)
      · rw [he, ← erase_dropC hC.keys h4]
        have em : ∀ {α β : Type} (f : α → β) (l : List α) (i : Nat), (l.eraseIdx i).map f = (l.map f).eraseIdx i := by
          intro α β f l
          induction l with
          | nil => intro i; rfl
          | cons a l ih => intro i; cases i with
            | zero => rfl
            | succ i => simp [ih]
        rw [em, em, hC.row]
/-! ### The map through the walk -/
section
variable {b : Nat} {W w1 : World} {L : List ((Int × Int) × Int)} {k : Int × Int}
theorem Cts.lt (h : Cts b W L) : b < W.heap.size := by obtain ⟨es, clock, hb, _⟩ := h; exact blk_lt hb
theorem Cts.below (h : Cts b W L) (hb : Below W.heap.size W w1) : Cts b w1 L := by obtain ⟨es, clock, h1, h2⟩ := h; exact ⟨es, clock, blk_below h1 hb, h2⟩
theorem Cts.alloc (h : Cts b W L) (o : Obj) : Cts b (W.alloc o) L := h.below (below_alloc (Below.refl _ _) o)
theorem Cts.drew (h : Cts b W L) : Cts b W.drew L := h.below (below_drew (Below.refl _ _))
theorem Cts.drewN (h : Cts b W L) (m : Nat) : Cts b (W.drewN m) L := h.below (pw_below_drewN (Below.refl _ _) m)
theorem Cts.setCell (h : Cts b W L) {g j : Nat} (hg : b ≠ g) (u : Value) : Cts b (W.setCell ⟨g, j, none⟩ u) L := by
  obtain ⟨es, clock, h1, h2⟩ := h; exact ⟨es, clock, (Below.heap_setCell W _ u b hg).trans h1, h2⟩
theorem Cts.grown {g : Nat} (h : Cts b W L) (hg : W.grownBy w1 (some g)) (hne : g ≠ b) : Cts b w1 L := by
  obtain ⟨es, clock, h1, h2⟩ := h; exact ⟨es, clock, blk_grown h1 hg (fun e => by injection e with e; exact hne e.symm), h2⟩
theorem CtsOf.nil : CtsOf #[] 0 [] := ⟨by simp, by simp, by simp, by simp, by simp⟩
theorem below_map {B : Nat} {w : World} (hb : Below B w W) (hg : W.grownBy w1 (some b)) (hge : B ≤ b) (hs : B ≤ W.heap.size) : Below B w w1 := hb.grown hg hs (fun k e => by injection e with e; omega)
/-- The block has the count n at k. -/
def Has (b : Nat) (w : World) (k : Int × Int) (n : Int) : Prop := ∃ L, Cts b w L ∧ look L k = n
theorem Cts.has (h : Cts b W L) (k : Int × Int) : Has b W k (look L k) := ⟨L, h, rfl⟩
theorem Has.lookup {n : Int} (h : Has b W k n) (hk : wfP k) : (Instr.lookup 81 (.map (some b)) (keyV k) false).run Try.prog W = .ok (.int .i64 n) W := by
  obtain ⟨L, h1, rfl⟩ := h; exact h1.lookup hk
/-- 'count[k]++'. -/
def bump (L : List ((Int × Int) × Int)) (k : Int × Int) : List ((Int × Int) × Int) := (putC L k (look L k)).map fun p => if p.1 == k then (k, wrap64 (look L k + 1)) else p
theorem look_cons (a : (Int × Int) × Int) (L : List ((Int × Int) × Int)) (k : Int × Int) : look (a :: L) k = if a.1 == k then a.2 else look L k := by
  unfold look
  rw [List.find?_cons]
  cases a.1 == k <;> rfl
theorem look_putC (L : List ((Int × Int) × Int)) (k : Int × Int) : look (putC L k (look L k)) k = look L k := by
  unfold putC
  by_cases h : (L.any fun p => p.1 == k) = true
  · rw [if_pos h]
    generalize hn : look L k = n
    clear hn
    obtain ⟨p, hp, he⟩ := List.any_eq_true.1 h
    clear h
    induction L with
    | nil => cases hp
    | cons a L ih =>
      rw [List.map_cons, look_cons]
      by_cases ha : (a.1 == k) = true
      · rw [if_pos ha]; simp
      · rw [if_neg ha, if_neg ha]
        rcases List.mem_cons.1 hp with rfl | hp'
        · exact absurd he ha
        · exact ih hp'
  · rw [if_neg h]
    have hL : ∀ p ∈ L, p.1 ≠ k := fun p hp e => h (List.any_eq_true.2 ⟨p, hp, by simp [e]⟩)
    rw [look_none hL]
    clear h
    induction L with
    | nil => simp [look]
    | cons a L ih =>
      rw [List.cons_append, look_cons, if_neg (by simpa using hL a List.mem_cons_self)]
      exact ih (fun p hp => hL p (List.mem_cons_of_mem _ hp))
/-- The entry is made (or found); the count is the same; what entryStore does then. -/
theorem Cts.bumps (h : Cts b W L) (hk : wfP k) : ∃ (m : Nat) (w1 : World), (Instr.mapEntry 81 (.map (some b)) (keyV k)).run Try.prog W = .ok (.tuple #[.int .i64 (look L k), goInt m]) w1 ∧ W.grownBy w1 (some b) ∧ w1.heap.size = W.heap.size ∧ Has b w1 k (look L k) ∧
    ∃ w2 : World, (Instr.entryStore 81 (.map (some b)) (goInt m) (.int .i64 (wrap64 (look L k + 1)))).run Try.prog w1 = .ok () w2 ∧ w1.grownBy w2 (some b) ∧ w2.heap.size = w1.heap.size ∧ Cts b w2 (bump L k) := by
  obtain ⟨m, w1, h1, h2, h3, es, clock, hb, hC, j, e, hj, hm, he⟩ := h.entry hk
  obtain ⟨w2, h4, h5, h6, h7⟩ := CtsOf.store hb hC hj hm he (wrap64 (look L k + 1))
  exact ⟨m, w1, h1, h2, h3, ⟨_, ⟨es, clock, hb, hC⟩, look_putC L k⟩, w2, h4, h5, h6, h7⟩
/-- Good keys. -/
def kOk (a b : Int) : Bool := decide (0 ≤ a) && decide (a < 4611686018427387904) && decide (0 ≤ b) && decide (b < 4611686018427387904)
theorem kOk_wf {a c : Int} (h : kOk a c = true) : wfP (a, c) := by
  simp [kOk] at h
  exact ⟨WalkArith.wf_i64 (by omega), WalkArith.wf_i64 (by omega)⟩
def all2 (L : List ((Int × Int) × Int)) : Bool := L.all fun p => p.2 == 2
/-! ### range -/
/-- Block r goes over map b: todo entries are left, those behind it had the count 2. -/
def Rng (b r : Nat) (w : World) (L : List ((Int × Int) × Int)) (todo : Nat) : Prop := ∃ es clock seen, w.heap[b]? = some (.map es clock) ∧ CtsOf es clock L ∧ w.heap[r]? = some (.mapIter (some b) clock seen clock) ∧ (leftOf es seen).size = todo ∧ ∀ e ∈ es.toList, seen.contains e.born = true → e.val = .int .i64 2
theorem Cts.range (h : Cts b W L) : ∃ w1 : World, (Instr.range 81 (.map (some b))).run Try.prog W = .ok (.pointer (some ⟨W.heap.size, 0, none⟩)) w1 ∧ Below W.heap.size W w1 ∧ ∃ n, Rng b W.heap.size w1 L n := by
  obtain ⟨es, clock, h1, h2⟩ := h
  refine ⟨W.alloc (.mapIter (some b) clock #[] clock), ?_, below_alloc (Below.refl _ _) _, _, es, clock, #[], blk_alloc h1 _, h2, blk_new W _, rfl, by simp⟩
  simp [Instr.range, run_underlying Try.underlying81, MapKept.run_getObj_map h1, Result.andThen]
theorem CtsOf.mem {es : Array MapEntry} {clock : Nat} (h : CtsOf es clock L) {e : MapEntry} (he : e ∈ es.toList) : ∃ p ∈ L, e.key = keyV p.1 ∧ e.val = .int .i64 p.2 := by
  have : (e.key, e.val) ∈ L.map (fun p => (keyV p.1, Value.int .i64 p.2)) := by rw [← h.row]; exact List.mem_map_of_mem he
  obtain ⟨p, hp, e2⟩ := List.mem_map.1 this
  injection e2 with e3 e4
  exact ⟨p, hp, e3.symm, e4.symm⟩
theorem CtsOf.mem' {es : Array MapEntry} {clock : Nat} (h : CtsOf es clock L) {p : (Int × Int) × Int} (hp : p ∈ L) : ∃ e ∈ es.toList, e.val = .int .i64 p.2 := by
  have : (keyV p.1, Value.int .i64 p.2) ∈ es.toList.map (fun e => (e.key, e.val)) := by rw [h.row]; exact List.mem_map_of_mem (f := fun p => (keyV p.1, Value.int .i64 p.2)) hp
  obtain ⟨e, he, e2⟩ := List.mem_map.1 this
  injection e2 with e3 e4
  exact ⟨e, he, e4⟩
theorem not_all2 {p : (Int × Int) × Int} (hp : p ∈ L) (h : p.2 ≠ 2) : all2 L = false := by
  rw [all2, List.all_eq_false]; exact ⟨p, hp, by simpa using h⟩
/-- One step of the range. -/
theorem Rng.step {r n ty : Nat} (h : Rng b r W L n) : ((Instr.next (.pointer (some ⟨r, 0, none⟩)) false ty).run Try.prog W = .ok (.tuple #[.bool false]) W ∧ all2 L = true) ∨
    ∃ (v : Value) (m : Int) (w1 : World), (Instr.next (.pointer (some ⟨r, 0, none⟩)) false ty).run Try.prog W = .ok (.tuple #[.bool true, v, .int .i64 m]) w1 ∧ (Instr.entry (.pointer (some ⟨r, 0, none⟩))).run Try.prog w1 = .ok (.tuple #[v, .int .i64 m]) w1 ∧
      (∀ (B : Nat) (w : World), Below B w W → B ≤ r → B ≤ W.heap.size → Below B w w1) ∧ ((m ≠ 2 ∧ all2 L = false) ∨ (m = 2 ∧ ∃ n', n' < n ∧ Rng b r w1 L n')) := by
  obtain ⟨es, clock, seen, h1, h2, h3, rfl, h5⟩ := h
  have hbr : b ≠ r := fun e => by subst e; rw [h1] at h3; cases h3
  rcases run_next_at (P := Try.prog) W ty r b clock clock seen es clock h3 h1 h2.born (Nat.le_refl _) with ⟨h6, h7⟩ | ⟨e, he, w0, hw0, h7⟩
  · left
    refine ⟨h7, ?_⟩
    rw [all2, List.all_eq_true]
    intro p hp
    obtain ⟨e, he, e2⟩ := h2.mem' hp
    have := h5 e he (all_seen es seen h6 e he)
    rw [e2] at this
    injection this with _ this
    simpa using this
  · right
    obtain ⟨hes, _⟩ := mem_left he
    obtain ⟨p, hp, ek, ev⟩ := h2.mem hes
    have hr0 : w0.heap[r]? = some (.mapIter (some b) clock seen clock) := by rcases hw0 with rfl | rfl <;> exact h3
    have hb0 : w0.heap[b]? = some (.map es clock) := by rcases hw0 with rfl | rfl <;> exact h1
    have hset := MapKept.heap_set (o' := .mapIter (some b) clock (seen.push e.born) clock) hr0
    have hr1 : (ChangeMaps.setBlock w0 r (.mapIter (some b) clock (seen.push e.born) clock)).heap[r]? = _ := hset.1
    have hb1 : (ChangeMaps.setBlock w0 r (.mapIter (some b) clock (seen.push e.born) clock)).heap[b]? = some (.map es clock) := (hset.2 b hbr).trans hb0
    refine ⟨e.key, p.2, ChangeMaps.setBlock w0 r (.mapIter (some b) clock (seen.push e.born) clock), ?_, ?_, ?_, ?_⟩
    · rw [h7, ev]
    · rw [run_entry_at _ r b clock seen es clock e hr1 hb1 hes h2.apart, ev]
    · intro B w hB hBr hBs
      have hB0 : Below B w w0 := by
        rcases hw0 with rfl | rfl
        · exact hB
        · exact below_drew hB
      refine ⟨hB0.os, hB0.tape, hB0.output, Nat.le_trans hB0.size (by simp [ChangeMaps.setBlock]), fun k hk => ?_⟩
      exact (hset.2 k (by omega)).trans (hB0.block k hk)
    · by_cases h2' : p.2 = 2
      · right
        refine ⟨h2', _, left_shrinks es seen e he, es, clock, seen.push e.born, hb1, h2, hr1, rfl, ?_⟩
        intro x hx hs
        by_cases hxe : x.born = e.born
        · have : x = e := by
            obtain ⟨i, hi⟩ := List.getElem?_of_mem hx
            obtain ⟨j, hj⟩ := List.getElem?_of_mem hes
            have q1 : (es.toList.map (·.born))[i]? = some e.born := by rw [List.getElem?_map, hi]; simp [hxe]
            have q2 : (es.toList.map (·.born))[j]? = some e.born := by rw [List.getElem?_map, hj]; rfl
            have hij := (List.getElem?_inj (List.getElem?_eq_some_iff.1 q1).1 h2.apart).1 (q1.trans q2.symm)
            subst hij
            rw [hi] at hj
            exact Option.some.inj hj
          rw [this, ev, h2']
        · refine h5 x hx ?_
          rw [Array.contains_push] at hs
          simpa [hxe] using hs
      · exact .inl ⟨h2', not_all2 hp h2'⟩
end
/-! ### Operations of the map in a walk -/
section
variable {P : Program} {ops : Array Oper} {rest : List Oper} {o : Oper} {a : Act} {Q : Exit → Act → World → Prop}
theorem map_event {W : World} (hgd : o.guard = none) {N : Tmp} (_hd : o.dst = some N)
    (hrun : (execOp a.eval o).run P W = .ok (.value (.map (some W.heap.size))) (W.alloc (.map #[] 0)))
    (h : ∀ g, g = W.heap.size → ∀ w1, Cts g w1 [] → Below W.heap.size W w1 → wpList P ops Q rest (a.put o.dst (.map (some g))) w1) : wpList P ops Q (o :: rest) a W :=
  Kd.event_run hgd hrun (h _ rfl _ ⟨#[], 0, blk_new W _, CtsOf.nil⟩ (below_alloc (Below.refl _ _) _))
end
end Go.Proofs.Ytlccpkggdmngaaa.G
