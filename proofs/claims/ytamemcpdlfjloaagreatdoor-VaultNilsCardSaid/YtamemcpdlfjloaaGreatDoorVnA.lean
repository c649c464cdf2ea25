/- Contracts of what VaultNils calls, where something is not there. -/
import Derived.Test.YtamemcpdlfjloaaGreatDoorProg
import Derived.WalkKit
import Derived.KernelRfl
import Derived.Lib.Hide
import Derived.Handy
import Derived.Lib.BufferWrite
import Derived.Laws.CopyOwn
namespace Go.Proofs.YtamemcpdlfjloaaGreatDoor.Vn
open Go.RowKit
set_option linter.unusedVariables false
set_option linter.unusedSimpArgs false

theorem below_step {w W w2 : World} (h : Below w.heap.size w W) (k : Below W.heap.size W w2) : Below w.heap.size w w2 :=
  h.trans ⟨k.os, k.tape, k.output, k.size, fun i hi => k.block i (Nat.lt_of_lt_of_le hi h.size)⟩
theorem below_alloc {w W : World} (h : Below w.heap.size w W) (o : Obj) : Below w.heap.size w (W.alloc o) := h.alloc h.size o
theorem below_drew {B : Nat} {w W : World} (h : Below B w W) : Below B w W.drew := h.drew
theorem below_cell {w w1 : World} (hb : Below w.heap.size w w1) {a : Addr} {v : Value} (h : w.cell? a = some v) : w1.cell? a = some v := (hb.cell (World.block_lt_of_cell? w _ h)).trans h
theorem bcell {W w1 : World} (hb : Below W.heap.size W w1) : (∀ b o, b < W.heap.size → w1.cell? ⟨b, o, none⟩ = W.cell? ⟨b, o, none⟩) ∧ (∀ b o, b < W.heap.size → w1.frozen? ⟨b, o, none⟩ = W.frozen? ⟨b, o, none⟩) :=
  ⟨fun b o h => hb.cell (p := ⟨b, o, none⟩) h, fun b o h => hb.frozen (p := ⟨b, o, none⟩) h⟩
theorem ret_int {k : IntKind} {a b : Int} (h : a = b) : Ending.returned (.int k a) = .returned (.int k b) := by rw [h]
def NewRes (w : World) (e : Ending) (w' : World) : Prop := ∃ b, e = .returned (.pointer (some ⟨b, 0, none⟩)) ∧ w'.cell? ⟨b, 6, none⟩ = some (.slice none 0 0) ∧ Below w.heap.size w w'
set_option maxRecDepth 100000 in
set_option maxHeartbeats 1000000 in
theorem new_calls (w : World) : Calls Tryz.prog 4 #[] w (NewRes w) := by
  have hmm := @run_makeMap Tryz.prog
  go_enter Tryz.func4, Tryz.ntmps4
  go_wp2
  go_ret
  refine ⟨_, rfl, ?_, ?_⟩
  · go_simp
  · repeat (first | (with_reducible exact Below.refl _ _) | (with_reducible apply below_alloc))
def text : ByteArray := ⟨#[115, 111, 109, 101, 32, 98, 121, 116, 101, 115, 32, 111, 102, 32, 97, 32, 116, 97, 112, 101]⟩
def TapeRes (w : World) (e : Ending) (w' : World) : Prop := ∃ b A, e = .returned (.tuple #[.pointer (some ⟨b, 0, none⟩), .int .i64 0]) ∧ w'.cell? ⟨b, 0, none⟩ = some (.slice (some A) 20 20) ∧ w'.cell? ⟨b, 1, none⟩ = some (.int .i64 0) ∧ Below w.heap.size w w'
def zeros : Array Value := Array.replicate 20 (.int .u8 0)
theorem make20 (w : World) : (Instr.makeSlice 53 (.int .i64 20) (.int .i64 20)).run Tryz.prog w = .ok (.slice (some ⟨w.heap.size, 0, none⟩) 20 20) (w.alloc (.cells zeros 5)) := by kernel_rfl
def tapeB (w : World) : Obj := .cells #[.slice (some ⟨w.heap.size, 0, none⟩) 20 20, .int .i64 0, .int .i64 0] 55
theorem copy20 (w : World) : ∃ W', (∀ ty, (Builtin.copy_ #[53, 9] ty #[.slice (some ⟨w.heap.size, 0, none⟩) 20 20, .string ⟨#[115, 111, 109, 101, 32, 98, 121, 116, 101, 115, 32, 111, 102, 32, 97, 32, 116, 97, 112, 101]⟩]).run Tryz.prog ((w.alloc (.cells zeros 5)).alloc (.cells #[.slice (some ⟨w.heap.size, 0, none⟩) 20 20, .int .i64 0, .int .i64 0] 55)) = .ok (.int .i64 20) W') ∧
    W'.cell? ⟨w.heap.size + 1, 0, none⟩ = some (.slice (some ⟨w.heap.size, 0, none⟩) 20 20) ∧ W'.cell? ⟨w.heap.size + 1, 1, none⟩ = some (.int .i64 0) ∧ Below w.heap.size w W' := by
  have hg : ((w.alloc (.cells zeros 5)).alloc (.cells #[.slice (some ⟨w.heap.size, 0, none⟩) 20 20, .int .i64 0, .int .i64 0] 55)).heap[w.heap.size]? = some (.cells zeros 5 (0, 0)) := by
    rw [Below.heap_alloc _ _ _ (by simp)]
    exact heap_alloc_new w _
  refine ⟨_, fun ty => Lib.run_copy_row_string _ 53 9 ty 5 w.heap.size 0 20 20 text zeros 5 Tryz.underlying53 (by kernel_rfl) hg (by decide) (by decide), ?_, ?_, ?_⟩
  · exact (cell_of_row _ _ 0 _ 55 (0, 0) ((setRow_other _ _ _ _ (by simp)).trans (by have := heap_alloc_new (w.alloc (.cells zeros 5)) (.cells #[.slice (some ⟨w.heap.size, 0, none⟩) 20 20, .int .i64 0, .int .i64 0] 55); simpa using this))).trans rfl
  · exact (cell_of_row _ _ 1 _ 55 (0, 0) ((setRow_other _ _ _ _ (by simp)).trans (by have := heap_alloc_new (w.alloc (.cells zeros 5)) (.cells #[.slice (some ⟨w.heap.size, 0, none⟩) 20 20, .int .i64 0, .int .i64 0] 55); simpa using this))).trans rfl
  · exact below_setRow (below_alloc (below_alloc (Below.refl _ _) _) _) (Nat.le_refl _) _
set_option maxRecDepth 100000 in
set_option maxHeartbeats 1000000 in
theorem tape_calls (w : World) : Calls Tryz.prog 5 #[.string ⟨#[115, 111, 109, 101, 32, 98, 121, 116, 101, 115, 32, 111, 102, 32, 97, 32, 116, 97, 112, 101]⟩] w (TapeRes w) := by
  obtain ⟨W', hcp, h0, h1, hb⟩ := copy20 w
  have hmk := make20 w
  have H0 := Lib.hid h0
  have H1 := Lib.hid h1
  have HB := Lib.hid hb
  clear h0 h1 hb
  go_enter Tryz.func5, Tryz.ntmps5
  go_wp2
  exact bodyPost_ret (v := .tuple #[.pointer (some ⟨w.heap.size + 1, 0, none⟩), .int .i64 0]) (by simp [results, Tryz.results5, go_sem]) rfl ⟨_, _, rfl, H0.out, H1.out, HB.out⟩
def IdealRes (w : World) (e : Ending) (w' : World) : Prop := ∃ b, e = .returned (.tuple #[.pointer (some ⟨b, 0, none⟩), .int .i64 0]) ∧ Below w.heap.size w w'
set_option maxRecDepth 100000 in
set_option maxHeartbeats 1000000 in
theorem ideal_calls (w : World) : Calls Tryz.prog 6 #[.slice none 0 0] w (IdealRes w) := by
  have hmm := @run_makeMap Tryz.prog
  go_enter Tryz.func6, Tryz.ntmps6
  go_wp2
  refine wp_loop_rounds 1 ?_
  rw [rounds_succ]
  go_wp2
  refine bodyPost_ret (v := .tuple #[.pointer (some ⟨w.heap.size + 1, 0, none⟩), .int .i64 0]) (by simp [results, Tryz.results6, go_sem]) rfl ⟨_, rfl, ?_⟩
  repeat (first | (with_reducible exact Below.refl _ _) | (with_reducible apply below_alloc))
theorem icoins_calls (w : World) : Calls Tryz.prog 30 #[.pointer none, .int .i64 0] w fun e w' => e = .returned (.int .i64 0) ∧ w = w' := by
  go_enter Tryz.func30, Tryz.ntmps30
  go_wp2
  go_ret
  exact ⟨rfl, rfl⟩
theorem rcoins_calls (w : World) : Calls Tryz.prog 313 #[.pointer none, .int .i64 0] w fun e w' => e = .returned (.int .i64 0) ∧ w = w' := by
  go_enter Tryz.func313, Tryz.ntmps313
  go_wp2
  go_ret
  exact ⟨rfl, rfl⟩
theorem there_w (t s : Value) (w : World) : Calls Tryz.prog 14 #[.pointer none, t, s] w fun e w' => e = .returned (.bool false) ∧ w = w' := by
  go_enter Tryz.func14, Tryz.ntmps14
  go_wp2
  go_ret
  exact ⟨rfl, rfl⟩
theorem there_t (a : Addr) (s : Value) (w : World) : Calls Tryz.prog 14 #[.pointer (some a), .pointer none, s] w fun e w' => e = .returned (.bool false) ∧ w = w' := by
  go_enter Tryz.func14, Tryz.ntmps14
  go_wp2
  go_ret
  exact ⟨rfl, rfl⟩
theorem there_s (a b : Addr) (w : World) : Calls Tryz.prog 14 #[.pointer (some a), .pointer (some b), .nilIface] w fun e w' => e = .returned (.bool false) ∧ w = w' := by
  go_enter Tryz.func14, Tryz.ntmps14
  go_wp2
  go_ret
  exact ⟨rfl, rfl⟩
theorem there_i (a b : Addr) (w : World) : Calls Tryz.prog 14 #[.pointer (some a), .pointer (some b), .iface 30 (.pointer none)] w fun e w' => e = .returned (.bool false) ∧ w = w' := by
  go_enter Tryz.func14, Tryz.ntmps14
  go_wp2
  go_ret
  exact ⟨rfl, rfl⟩
theorem there_r (a b : Addr) (w : World) : Calls Tryz.prog 14 #[.pointer (some a), .pointer (some b), .iface 33 (.pointer none)] w fun e w' => e = .returned (.bool false) ∧ w = w' := by
  go_enter Tryz.func14, Tryz.ntmps14
  go_wp2
  go_ret
  exact ⟨rfl, rfl⟩
def cfg (a0 a1 a2 a3 a4 a5 : Int) : Value := .agg #[.int .i64 a0, .int .i64 a1, .int .i64 a2, .int .i64 a3, .int .i64 a4, .int .i64 a5]
/-- What is not there: the first, the second, or the third thing. -/
def NotThere (W T S : Value) : Prop := ∀ w, Calls Tryz.prog 14 #[W, T, S] w fun e w' => e = .returned (.bool false) ∧ w = w'
def TwoRes (w : World) (e : Ending) (w' : World) : Prop := e = .returned (.int .i64 2) ∧ Below w.heap.size w w'
set_option maxRecDepth 100000 in
set_option maxHeartbeats 1000000 in
theorem format_calls (W T S : Value) (a0 a1 a2 a3 a4 a5 : Int) (h : NotThere W T S) (w : World) : Calls Tryz.prog 7 #[W, T, S, .agg #[.int .i64 a0, .int .i64 a1, .int .i64 a2, .int .i64 a3, .int .i64 a4, .int .i64 a5]] w (TwoRes w) := by
  go_enter Tryz.func7, Tryz.ntmps7
  go_wp2_with fail
  refine (h _).mono ?_
  rintro e w' ⟨rfl, rfl⟩
  go_wp2
  go_ret
  exact ⟨rfl, by repeat (first | (with_reducible exact Below.refl _ _) | (with_reducible apply below_alloc))⟩
def RecRes (w : World) (e : Ending) (w' : World) : Prop := e = .returned (.tuple #[.pointer none, .int .i64 2]) ∧ Below w.heap.size w w'
set_option maxRecDepth 100000 in
set_option maxHeartbeats 1000000 in
theorem recover_calls (W T S : Value) (a0 a1 a2 a3 a4 a5 : Int) (h : NotThere W T S) (w : World) : Calls Tryz.prog 8 #[W, T, S, .agg #[.int .i64 a0, .int .i64 a1, .int .i64 a2, .int .i64 a3, .int .i64 a4, .int .i64 a5]] w (RecRes w) := by
  go_enter Tryz.func8, Tryz.ntmps8
  go_wp2_with fail
  refine (h _).mono ?_
  rintro e w' ⟨rfl, rfl⟩
  go_wp2
  exact bodyPost_ret (v := .tuple #[.pointer none, .int .i64 2]) (by simp [results, Tryz.results8, go_sem]) rfl ⟨rfl, by repeat (first | (with_reducible exact Below.refl _ _) | (with_reducible apply below_alloc))⟩
theorem code_calls (w : World) : Calls Tryz.prog 22 #[.pointer none] w fun e w' => e = .returned (.int .i64 2) ∧ w = w' := by
  go_enter Tryz.func22, Tryz.ntmps22
  go_wp2
  go_ret
  exact ⟨rfl, rfl⟩
def BatchRes (w : World) (e : Ending) (w' : World) : Prop := e = .returned (.tuple #[.slice none 0 0, .int .i64 2]) ∧ w = w'
set_option maxRecDepth 100000 in
theorem batch_calls (ops : Value) (w : World) : Calls Tryz.prog 17 #[.pointer none, ops] w (BatchRes w) := by
  go_enter Tryz.func17, Tryz.ntmps17
  go_wp2_with (go_at_call 22; refine (code_calls _).mono ?_; rintro e w' ⟨rfl, rfl⟩)
  exact bodyPost_ret (v := .tuple #[.slice none 0 0, .int .i64 2]) (by simp [results, Tryz.results17, go_sem]) rfl ⟨rfl, rfl⟩
set_option maxRecDepth 100000 in
set_option maxHeartbeats 1000000 in
theorem one_calls (k at_ n : Int) (p t d : ByteArray) (want : Value) (w : World) : Calls Tryz.prog 39 #[.pointer none, .agg #[.int .i64 k, .string p, .string t, .int .i64 at_, .int .i64 n, .string d], want] w (TwoRes w) := by
  go_enter Tryz.func39, Tryz.ntmps39
  go_wp2_with (go_at_call 17; refine (batch_calls _ _).mono ?_; rintro e w' ⟨rfl, rfl⟩)
  go_ret
  exact ⟨rfl, by repeat (first | (with_reducible exact Below.refl _ _) | (with_reducible apply below_alloc))⟩
set_option maxRecDepth 100000 in
theorem mkdir_calls (p : ByteArray) (w : World) : Calls Tryz.prog 23 #[.pointer none, .string p] w (TwoRes w) := by
  go_enter Tryz.func23, Tryz.ntmps23
  go_wp2_with (go_at_call 39; refine (one_calls _ _ _ _ _ _ _ _).mono ?_; rintro e w' ⟨rfl, hb⟩)
  go_ret
  exact ⟨rfl, by repeat (first | (with_reducible exact Below.refl _ _) | (with_reducible exact hb) | (with_reducible apply below_alloc))⟩
set_option maxRecDepth 100000 in
theorem create_calls (p : ByteArray) (w : World) : Calls Tryz.prog 24 #[.pointer none, .string p] w (TwoRes w) := by
  go_enter Tryz.func24, Tryz.ntmps24
  go_wp2_with (go_at_call 39; refine (one_calls _ _ _ _ _ _ _ _).mono ?_; rintro e w' ⟨rfl, hb⟩)
  go_ret
  exact ⟨rfl, by repeat (first | (with_reducible exact Below.refl _ _) | (with_reducible exact hb) | (with_reducible apply below_alloc))⟩
set_option maxRecDepth 100000 in
theorem remove_calls (p : ByteArray) (w : World) : Calls Tryz.prog 27 #[.pointer none, .string p] w (TwoRes w) := by
  go_enter Tryz.func27, Tryz.ntmps27
  go_wp2_with (go_at_call 39; refine (one_calls _ _ _ _ _ _ _ _).mono ?_; rintro e w' ⟨rfl, hb⟩)
  go_ret
  exact ⟨rfl, by repeat (first | (with_reducible exact Below.refl _ _) | (with_reducible exact hb) | (with_reducible apply below_alloc))⟩
set_option maxRecDepth 100000 in
theorem rmdir_calls (p : ByteArray) (w : World) : Calls Tryz.prog 28 #[.pointer none, .string p] w (TwoRes w) := by
  go_enter Tryz.func28, Tryz.ntmps28
  go_wp2_with (go_at_call 39; refine (one_calls _ _ _ _ _ _ _ _).mono ?_; rintro e w' ⟨rfl, hb⟩)
  go_ret
  exact ⟨rfl, by repeat (first | (with_reducible exact Below.refl _ _) | (with_reducible exact hb) | (with_reducible apply below_alloc))⟩
set_option maxRecDepth 100000 in
theorem truncate_calls (p : ByteArray) (n : Int) (w : World) : Calls Tryz.prog 25 #[.pointer none, .string p, .int .i64 n] w (TwoRes w) := by
  go_enter Tryz.func25, Tryz.ntmps25
  go_wp2_with (go_at_call 39; refine (one_calls _ _ _ _ _ _ _ _).mono ?_; rintro e w' ⟨rfl, hb⟩)
  go_ret
  exact ⟨rfl, by repeat (first | (with_reducible exact Below.refl _ _) | (with_reducible exact hb) | (with_reducible apply below_alloc))⟩
set_option maxRecDepth 100000 in
theorem rename_calls (p q : ByteArray) (w : World) : Calls Tryz.prog 26 #[.pointer none, .string p, .string q] w (TwoRes w) := by
  go_enter Tryz.func26, Tryz.ntmps26
  go_wp2_with (go_at_call 39; refine (one_calls _ _ _ _ _ _ _ _).mono ?_; rintro e w' ⟨rfl, hb⟩)
  go_ret
  exact ⟨rfl, by repeat (first | (with_reducible exact Below.refl _ _) | (with_reducible exact hb) | (with_reducible apply below_alloc))⟩
def ReadRes (w : World) (e : Ending) (w' : World) : Prop := e = .returned (.tuple #[.string ⟨#[]⟩, .int .i64 2]) ∧ Below w.heap.size w w'
set_option maxRecDepth 100000 in
theorem readAt_calls (p : ByteArray) (a n : Int) (w : World) : Calls Tryz.prog 18 #[.pointer none, .string p, .int .i64 a, .int .i64 n] w (ReadRes w) := by
  go_enter Tryz.func18, Tryz.ntmps18
  go_wp2_with (go_at_call 39; refine (one_calls _ _ _ _ _ _ _ _).mono ?_; rintro e w' ⟨rfl, hb⟩; obtain ⟨hc, hf⟩ := bcell hb; have hs := hb.size)
  refine bodyPost_ret (v := .tuple #[.string ⟨#[]⟩, .int .i64 2]) (by simp [results, Tryz.results18, go_sem, hc]) rfl ⟨rfl, ?_⟩
  exact (below_step (below_alloc (Below.refl _ _) _) hb).setCell (Nat.le_refl _) _
def WriteRes (w : World) (e : Ending) (w' : World) : Prop := e = .returned (.tuple #[.int .i64 0, .int .i64 2]) ∧ Below w.heap.size w w'
set_option maxRecDepth 100000 in
theorem writeAt_calls (p d : ByteArray) (a : Int) (w : World) : Calls Tryz.prog 19 #[.pointer none, .string p, .int .i64 a, .string d] w (WriteRes w) := by
  go_enter Tryz.func19, Tryz.ntmps19
  go_wp2_with (go_at_call 39; refine (one_calls _ _ _ _ _ _ _ _).mono ?_; rintro e w' ⟨rfl, hb⟩; obtain ⟨hc, hf⟩ := bcell hb; have hs := hb.size)
  refine bodyPost_ret (v := .tuple #[.int .i64 0, .int .i64 2]) (by simp [results, Tryz.results19, go_sem, hc]) rfl ⟨rfl, ?_⟩
  exact (below_step (below_alloc (Below.refl _ _) _) hb).setCell (Nat.le_refl _) _
def ListRes (w : World) (e : Ending) (w' : World) : Prop := e = .returned (.tuple #[.slice none 0 0, .int .i64 2]) ∧ Below w.heap.size w w'
set_option maxRecDepth 100000 in
theorem readdir_calls (p : ByteArray) (w : World) : Calls Tryz.prog 20 #[.pointer none, .string p] w (ListRes w) := by
  go_enter Tryz.func20, Tryz.ntmps20
  go_wp2_with (go_at_call 39; refine (one_calls _ _ _ _ _ _ _ _).mono ?_; rintro e w' ⟨rfl, hb⟩; obtain ⟨hc, hf⟩ := bcell hb; have hs := hb.size)
  refine bodyPost_ret (v := .tuple #[.slice none 0 0, .int .i64 2]) (by simp [results, Tryz.results20, go_sem, hc]) rfl ⟨rfl, ?_⟩
  exact (below_step (below_alloc (Below.refl _ _) _) hb).setCell (Nat.le_refl _) _
def StatRes (w : World) (e : Ending) (w' : World) : Prop := e = .returned (.tuple #[.int .i64 0, .int .i64 0, .int .i64 2]) ∧ Below w.heap.size w w'
set_option maxRecDepth 100000 in
theorem stat_calls (p : ByteArray) (w : World) : Calls Tryz.prog 21 #[.pointer none, .string p] w (StatRes w) := by
  go_enter Tryz.func21, Tryz.ntmps21
  go_wp2_with (go_at_call 39; refine (one_calls _ _ _ _ _ _ _ _).mono ?_; rintro e w' ⟨rfl, hb⟩; obtain ⟨hc, hf⟩ := bcell hb; have hs := hb.size)
  have h0 : w'.cell? ⟨w.heap.size, 0, none⟩ = some (.int .i64 0) := by rw [hc _ _ (by simp; omega)]; go_simp
  have h1 : w'.cell? ⟨w.heap.size + 1, 0, none⟩ = some (.int .i64 0) := by rw [hc _ _ (by simp)]; go_simp
  clear hc
  go_region
  go_wp2
  refine bodyPost_ret (v := .tuple #[.int .i64 0, .int .i64 0, .int .i64 2]) (by simp [results, Tryz.results21, go_sem, h0, h1]) rfl ⟨rfl, ?_⟩
  refine below_drew ?_
  exact ((below_step (below_alloc (below_alloc (Below.refl _ _) _) _) hb).setCell (Nat.le_refl _) _).setCell (by simp) _
end Go.Proofs.YtamemcpdlfjloaaGreatDoor.Vn
