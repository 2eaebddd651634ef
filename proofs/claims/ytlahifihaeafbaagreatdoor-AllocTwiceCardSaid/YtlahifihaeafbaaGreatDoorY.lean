/- A part of a proof of the law AllocTwice: what the deferred function does. -/
import Derived.Test.YtlahifihaeafbaaGreatDoorProg
import Derived.Tactics
import Derived.Tactics2
import Derived.Defers
import Derived.Recover
import Derived.RecoverIn
import Derived.ControlIn
import Derived.Laws.Pointers
import Derived.WideLaws
import Derived.KernelRfl
import Derived.Laws.Alloc2
set_option linter.all false
set_option maxRecDepth 100000
namespace Go.Proofs.YtlahifihaeafbaaGreatDoor
open Go
theorem zx7 : Tryz.prog.underlying 20 = some (.interface (Tryz.prog.methodsAt 20)) := by kernel_rfl
theorem q1 (w : World) : (binOp .eql 20 .nilIface .nilIface).run Tryz.prog w = .ok (.bool true) w := run_eql_nil_nil w 20 zx7
theorem q2 (u : TypeId) (x : Value) (w : World) : (binOp .eql 20 (.iface u x) .nilIface).run Tryz.prog w = .ok (.bool false) w := run_eql_held_nil w 20 u x zx7
theorem zzJ : (match Tryz.prog.underlying 109 with | some (.struct _) => true | _ => false) = true := by kernel_rfl
theorem q3 (v : Value) (w : World) : (Instr.typeAssert (.iface 109 v) 20 109 true).run Tryz.prog w = .ok (.tuple #[v, .bool true]) w := by
 have h := zzJ
 cases e : Tryz.prog.underlying 109 with
 | none => rw [e] at h; cases h
 | some d =>
   rw [e] at h
   cases d with
   | struct fs => simp [Instr.typeAssert, run_underlying e]
   | _ => cases h
set_option maxHeartbeats 4000000 in
theorem zrN (a8 a9 : Addr) (w : World) :
 CallsDIn Fence.wide 0 Tryz.prog 63 #[.pointer (some a8), .pointer (some a9)] .returning w fun e u' w' => e = .returned (.tuple #[]) /\ u' = .returning /\ w' = w := by
  refine callsDIn_of_wpSIn Tryz.func63 rfl trivial fun c₀ cs hu => ?_
  apply wpSIn_seq
  apply wpSIn_region
  simp [wpOpsSIn, go_sem, recoverD, hu, Tryz.ntmps63, Exit.thenS, Fence.wide]
  refine wpSIn_of_wpIn rfl ?_
  refine wpIn_wide.2 ?_
  have h1 := q1
  have h2 := q2
  have h3 := q3
  go_wp2
  cases c₀
  simp_all [bodyPostS, results, Tryz.results63]
theorem zsn {w : World} {b : Nat} {v : Value} (h : w.cell? ⟨b, 0, none⟩ = some v) (ob : Obj) : (w.alloc ob).cell? ⟨b, 0, none⟩ = some v := by
 have hb : b < w.heap.size := by
  apply Classical.byContradiction
  intro hb
  have : w.heap[b]? = none := Array.getElem?_eq_none (by omega)
  simp [World.cell?, this] at h
 have : (w.alloc ob).heap[b]? = w.heap[b]? := by
  show (w.heap.push ob)[b]? = _
  rw [Array.getElem?_push, if_neg (by omega)]
 simpa [World.cell?, this] using h
theorem zsA {w : World} {b : Nat} (hb : b < w.heap.size) (h : w.frozen? ⟨b, 0, none⟩ = false) (ob : Obj) : (w.alloc ob).frozen? ⟨b, 0, none⟩ = false := by
 have : (w.alloc ob).heap[b]? = w.heap[b]? := by
  show (w.heap.push ob)[b]? = _
  rw [Array.getElem?_push, if_neg (by omega)]
 simpa [World.frozen?, this] using h
theorem zoe {w : World} {a b : Nat} {v x : Value} (n : ¬ a = b) (h : w.cell? ⟨b, 0, none⟩ = some v) : (w.setCell ⟨a, 0, none⟩ x).cell? ⟨b, 0, none⟩ = some v := by
 rw [World.cell?_setCell_other _ _ _ _ (fun e => n (by injection e))]; exact h
theorem zud {w : World} {x y : Value} {T : TypeId} : (w.alloc (.cells #[x] T)).setCell ⟨w.heap.size, 0, none⟩ y = w.alloc (.cells #[y] T) := by
 have := World.setCell_alloc_new (w := w) #[x] T 0 y
 simpa using this
set_option maxHeartbeats 4000000 in
theorem zub (b8 b9 : Nat) (k : Int) (w : World) (v8 v9 : Value) (h8 : w.cell? ⟨b8, 0, none⟩ = some v8) (z8 : w.frozen? ⟨b8, 0, none⟩ = false) (h9 : w.cell? ⟨b9, 0, none⟩ = some v9) (z9 : w.frozen? ⟨b9, 0, none⟩ = false)
 (l8 : b8 < w.heap.size) (l9 : b9 < w.heap.size) (n : ¬ b8 = b9) :
 CallsDIn Fence.wide 0 Tryz.prog 63 #[.pointer (some ⟨b8, 0, none⟩), .pointer (some ⟨b9, 0, none⟩)] (.panicking [{ v := .iface 109 (.agg #[.int .i64 k]), recovered := false }]) w fun e u' w' => e = .returned (.tuple #[]) /\ u' = .panicking [{ v := .iface 109 (.agg #[.int .i64 k]), recovered := true }] ∧
  ∃ T, w' = ((w.alloc (.cells #[.int .i64 k] T)).setCell ⟨b8, 0, none⟩ (.int .i64 k)).setCell ⟨b9, 0, none⟩ (.int .i64 191) := by
  refine callsDIn_of_wpSIn Tryz.func63 rfl trivial fun c₀ cs hu => ?_
  apply wpSIn_seq
  apply wpSIn_region
  simp [wpOpsSIn, go_sem, recoverD, hu, Tryz.ntmps63, Exit.thenS, Fence.wide]
  refine wpSIn_of_wpIn rfl ?_
  refine wpIn_wide.2 ?_
  have h1 := q1
  have h2 := q2
  have h3 := q3
  have n' : ¬ b9 = b8 := fun e => n e.symm
  have n8 : ¬ b8 = w.heap.size := by omega
  have n9 : ¬ b9 = w.heap.size := by omega
  have c8 := zsn h8
  have c9 := zsn h9
  have f8 := zsA l8 z8
  have f9 := zsA l9 z9
  have d8 := zoe (x := .int .i64 k) (fun e => n8 e.symm) (c8 (.cells #[.int .i64 0] 109))
  have d9 := zoe (x := .int .i64 k) n (zoe (x := .int .i64 k) (fun e => n9 e.symm) (c9 (.cells #[.int .i64 0] 109)))
  clear l8 l9 c9
  go_wp2
  cases c₀
  simp [bodyPostS, results, Tryz.results63, zud]
  exact ⟨109, rfl⟩
theorem zpC (b8 b9 : Nat) (w : World) : CallsDIn Fence.wide 0 Tryz.prog 63 #[.pointer (some ⟨b8, 0, none⟩), .pointer (some ⟨b9, 0, none⟩)] .returning w fun e u' w' => e = .returned (.tuple #[]) /\ u' = .returning /\ w' = w := zrN _ _ w
theorem zrO (b8 b9 : Nat) (k : Int) (w1 : World) (v8 v9 : Value) (h8 : w1.cell? ⟨b8, 0, none⟩ = some v8) (z8 : w1.frozen? ⟨b8, 0, none⟩ = false) (h9 : w1.cell? ⟨b9, 0, none⟩ = some v9) (z9 : w1.frozen? ⟨b9, 0, none⟩ = false) (l8 : b8 < w1.heap.size) (l9 : b9 < w1.heap.size) (n : ¬ b8 = b9) :
 CallsDIn Fence.wide 0 Tryz.prog 63 #[.pointer (some ⟨b8, 0, none⟩), .pointer (some ⟨b9, 0, none⟩)] (.panicking [{ v := .iface 109 (.agg #[.int .i64 k]), recovered := false }]) w1 fun e u' w' => e = .returned (.tuple #[]) /\ u' = .panicking [{ v := .iface 109 (.agg #[.int .i64 k]), recovered := true }] ∧
  ∃ T, w' = ((w1.alloc (.cells #[.int .i64 k] T)).setCell ⟨b8, 0, none⟩ (.int .i64 k)).setCell ⟨b9, 0, none⟩ (.int .i64 191) := zub b8 b9 k w1 v8 v9 h8 z8 h9 z9 l8 l9 n
end Go.Proofs.YtlahifihaeafbaaGreatDoor
