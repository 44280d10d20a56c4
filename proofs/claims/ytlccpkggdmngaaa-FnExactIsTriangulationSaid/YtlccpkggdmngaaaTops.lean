/- Operations on the map of counts and on the pair, as they run. -/
import Derived.Test.YtlccpkggdmngaaaTmap
namespace Go.Proofs.Ytlccpkggdmngaaa.G
open Go.RowKit Go.Proofs.YtlccpkggdmngaaaW.PrintWords Go.Proofs.YtlccpkggdmngaaaW.PrintLast Go.Maps Go.WideMaps
section
variable {P : Program} {oi : Oper} {a : Act} {w w1 : World} {v vx vy vz : Value} {t : TypeId} {x y z : Operand} {c : Bool}
theorem op_lookup (hop : oi.op = .lookup t x y c) (hx : a.eval x = vx) (hy : a.eval y = vy) (h : (Instr.lookup t vx vy c).run P w = .ok v w1) : (execOp a.eval oi).run P w = .ok (.value v) w1 := by
  unfold execOp; simp [hop, hx, hy, h, Result.andThen]
theorem op_mapEntry (hop : oi.op = .mapEntry t x y) (hx : a.eval x = vx) (hy : a.eval y = vy) (h : (Instr.mapEntry t vx vy).run P w = .ok v w1) : (execOp a.eval oi).run P w = .ok (.value v) w1 := by
  unfold execOp; simp [hop, hx, hy, h, Result.andThen]
theorem op_entryStore (hop : oi.op = .entryStore t x y z) (hx : a.eval x = vx) (hy : a.eval y = vy) (hz : a.eval z = vz) (h : (Instr.entryStore t vx vy vz).run P w = .ok () w1) : (execOp a.eval oi).run P w = .ok .skip w1 := by
  unfold execOp; simp [hop, hx, hy, hz, h, Result.andThen]
theorem op_range (hop : oi.op = .range t x) (hx : a.eval x = vx) (h : (Instr.range t vx).run P w = .ok v w1) : (execOp a.eval oi).run P w = .ok (.value v) w1 := by
  unfold execOp; simp [hop, hx, h, Result.andThen]
theorem op_next (hop : oi.op = .next x c) (hx : a.eval x = vx) (h : (Instr.next vx c oi.type).run P w = .ok v w1) : (execOp a.eval oi).run P w = .ok (.value v) w1 := by
  unfold execOp; simp [hop, hx, h, Result.andThen]
theorem op_entry (hop : oi.op = .entry x) (hx : a.eval x = vx) (h : (Instr.entry vx).run P w = .ok v w1) : (execOp a.eval oi).run P w = .ok (.value v) w1 := by
  unfold execOp; simp [hop, hx, h, Result.andThen]
theorem op_extract {n : Nat} {vs : Array Value} (hop : oi.op = .extract x n) (hx : a.eval x = .tuple vs) (h : vs[n]? = some v) : (execOp a.eval oi).run P w = .ok (.value v) w := by
  unfold execOp; simp [hop, hx, Instr.extract, h]
theorem op_build {i j : Nat} (hop : oi.op = .build t #[(i, x), (j, y)]) (hx : a.eval x = vx) (hy : a.eval y = vy) (h : (Instr.build t #[(i, vx), (j, vy)]).run P w = .ok v w1) : (execOp a.eval oi).run P w = .ok (.value v) w1 := by
  unfold execOp; simp [hop, hx, hy, h, Result.andThen]
theorem op_alloc (hop : oi.op = .alloc t) (h : (Instr.alloc t true (.tuple #[])).run P w = .ok v w1) : (execOp a.eval oi).run P w = .ok (.value v) w1 := by
  unfold execOp; simp [hop, h, Result.andThen]
theorem op_store (hop : oi.op = .store t x y) (hx : a.eval x = vx) (hy : a.eval y = vy) (h : (Instr.storeAt t vx vy).run P w = .ok () w1) : (execOp a.eval oi).run P w = .ok .skip w1 := by
  unfold execOp; simp [hop, hx, hy, h, Result.andThen]
theorem op_load (hop : oi.op = .load t x) (hx : a.eval x = vx) (h : (Instr.loadAt t vx).run P w = .ok v w1) : (execOp a.eval oi).run P w = .ok (.value v) w1 := by
  unfold execOp; simp [hop, hx, h, Result.andThen]
theorem op_delete {ts : Array TypeId} (hop : oi.op = .call { callee := .builtin .delete, args := #[x, y], argTypes := ts }) (hx : a.eval x = vx) (hy : a.eval y = vy) (h : (Builtin.delete_ ts oi.type #[vx, vy]).run P w = .ok v w1) : (execOp a.eval oi).run P w = .ok (.value v) w1 := by
  unfold execOp; simp [hop, resolve, invoke, builtin, hx, hy, h, Result.andThen]
end
theorem k01 {a b c : Int} (h : (kOk a b && kOk b c) = true) : wfP (a, b) := kOk_wf (Bool.and_eq_true _ _ ▸ h).1
theorem k12 {a b c : Int} (h : (kOk a b && kOk b c) = true) : wfP (b, c) := kOk_wf (Bool.and_eq_true _ _ ▸ h).2
theorem k02 {a b c : Int} (h : (kOk a b && kOk b c) = true) : wfP (a, c) := by
  simp [kOk] at h
  exact kOk_wf (by simp [kOk]; omega)
theorem run_build82 (a b : Int) (w : World) : (Instr.build 82 #[(0, .int .i64 a), (1, .int .i64 b)]).run Try.prog w = .ok (keyV (a, b)) w := by kernel_rfl
theorem run_alloc82 (w : World) : (Instr.alloc 82 true (.tuple #[])).run Try.prog w = .ok (.pointer (some ⟨w.heap.size, 0, none⟩)) (w.alloc (.cells #[.int .i64 0, .int .i64 0] 82 (0, 0))) := by kernel_rfl
theorem run_store82 {w : World} {g : Nat} {u0 u1 : Value} (hb : w.heap[g]? = some (.cells #[u0, u1] 82 (0, 0))) (a b : Int) : ∃ w1, (Instr.storeAt 82 (.pointer (some ⟨g, 0, none⟩)) (keyV (a, b))).run Try.prog w = .ok () w1 ∧ w1.heap[g]? = some (.cells #[.int .i64 a, .int .i64 b] 82 (0, 0)) ∧ w.grownBy w1 (some g) := by
  refine ⟨w.setRow g #[.int .i64 a, .int .i64 b], ?_, ?_, ?_⟩
  · have h := run_storeVar_row (P := Try.prog) w g 82 82 #[u0, u1] #[.int .i64 a, .int .i64 b] hb (by kernel_rfl) rfl (by simp [Value.oneCell'])
    simp [keyV, Instr.storeAt, Instr.sureAddr, h]
  · exact setRow_heap w g _ _ 82 (0, 0) hb
  · exact ⟨rfl, rfl, rfl, by simp [World.setRow], fun i _ hi => setRow_other w g i _ (fun e => hi (by rw [e]))⟩
theorem run_load82 {w : World} {g : Nat} {a b : Int} (hb : w.heap[g]? = some (.cells #[.int .i64 a, .int .i64 b] 82 (0, 0))) : (Instr.loadAt 82 (.pointer (some ⟨g, 0, none⟩))).run Try.prog w = .ok (keyV (a, b)) w := by
  have h := run_loadVar_row (P := Try.prog) w g 82 82 #[.int .i64 a, .int .i64 b] (0, 0) _ hb Try.underlying82 rfl (by kernel_rfl)
  simp [keyV, Instr.loadAt, Instr.sureAddr, h]
end Go.Proofs.Ytlccpkggdmngaaa.G
