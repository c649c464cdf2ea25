/- VaultNils: whatever the configuration, the law returns true; the card. -/
import Derived.Test.YtamemcpdlfjloaaGreatDoorVnA
import Derived.Deep.QuietTactic
import Derived.BigQuiet
namespace Go.Proofs.YtamemcpdlfjloaaGreatDoor.Vn
open Go.RowKit
set_option linter.unusedVariables false
set_option linter.unusedSimpArgs false
theorem num_calls (n : Int) (w : World) : Calls Tryz.prog 9 #[.int .i64 n] w fun e w' => e = .returned (.int .i64 n) ∧ w = w' := by
  go_enter Tryz.func9, Tryz.ntmps9
  go_wp2
  go_ret
  exact ⟨rfl, rfl⟩
def NoneRes (w : World) (e : Ending) (w' : World) : Prop := e = .returned (.bool true) ∧ Below w.heap.size w w'
set_option maxRecDepth 100000 in
set_option maxHeartbeats 2000000 in
theorem none_calls (w : World) : Calls Tryz.prog 12 #[] w (NoneRes w) := by
  go_enter Tryz.func12, Tryz.ntmps12
  go_wp2_with fail
  refine (batch_calls _ _).mono ?_; rintro e w' ⟨rfl, rfl⟩
  go_wp2_with fail
  refine (readAt_calls _ _ _ _).mono ?_; rintro e w1 ⟨rfl, hb1⟩
  go_wp2_with fail
  refine (writeAt_calls _ _ _ _).mono ?_; rintro e w2 ⟨rfl, hb2⟩
  go_wp2_with fail
  refine (readdir_calls _ _).mono ?_; rintro e w3 ⟨rfl, hb3⟩
  go_wp2_with fail
  refine (stat_calls _ _).mono ?_; rintro e w4 ⟨rfl, hb4⟩
  go_wp2_with fail
  refine (code_calls _).mono ?_; rintro e w' ⟨rfl, rfl⟩
  go_wp2_with fail
  refine (mkdir_calls _ _).mono ?_; rintro e w5 ⟨rfl, hb5⟩
  go_wp2_with fail
  refine (create_calls _ _).mono ?_; rintro e w6 ⟨rfl, hb6⟩
  go_wp2_with fail
  refine (truncate_calls _ _ _).mono ?_; rintro e w7 ⟨rfl, hb7⟩
  go_wp2_with fail
  refine (rename_calls _ _ _).mono ?_; rintro e w8 ⟨rfl, hb8⟩
  go_wp2_with fail
  refine (remove_calls _ _).mono ?_; rintro e w9 ⟨rfl, hb9⟩
  go_wp2_with fail
  refine (rmdir_calls _ _).mono ?_; rintro e w10 ⟨rfl, hb10⟩
  go_wp2_with fail
  have HB := Lib.hid (below_step (below_step (below_step (below_step (below_step (below_step (below_step (below_step (below_step hb1 hb2) hb3) hb4) hb5) hb6) hb7) hb8) hb9) hb10)
  clear hb1 hb2 hb3 hb4 hb5 hb6 hb7 hb8 hb9 hb10
  go_rounds 13
  go_ret
  exact ⟨rfl, below_alloc HB.out _⟩
set_option maxRecDepth 100000 in
set_option maxHeartbeats 2000000 in
theorem calls_calls (b : Nat) (w : World) (h : w.cell? ⟨b, 6, none⟩ = some (.slice none 0 0)) : Calls Tryz.prog 10 #[.pointer (some ⟨b, 0, none⟩)] w fun e w' => e = .returned (.int .i64 0) ∧ w = w' := by
  go_enter Tryz.func10, Tryz.ntmps10
  go_wp2
  go_ret
  exact ⟨rfl, rfl⟩
def LeftRes (w : World) (e : Ending) (w' : World) : Prop := e = .returned (.int .i64 20) ∧ Below w.heap.size w w'
set_option maxRecDepth 100000 in
set_option maxHeartbeats 2000000 in
theorem left_calls (b : Nat) (A : Addr) (w : World) (h : w.cell? ⟨b, 0, none⟩ = some (.slice (some A) 20 20)) (h1 : w.cell? ⟨b, 1, none⟩ = some (.int .i64 0)) : Calls Tryz.prog 11 #[.pointer (some ⟨b, 0, none⟩)] w (LeftRes w) := by
  go_enter Tryz.func11, Tryz.ntmps11
  go_wp2
  go_quiet (fail)
  go_wp2
  go_ret
  exact ⟨rfl, ⟨rfl, rfl, rfl, Nat.le_refl _, fun _ _ => rfl⟩⟩
def LawRes (w : World) (e : Ending) (w' : World) : Prop := e = .returned (.bool true) ∧ Below w.heap.size w w'
theorem box6 {w : World} {g : Nat} {a0 a1 a2 a3 a4 a5 : Int} (h : w.heap[g]? = some (.cells #[.int .i64 a0, .int .i64 a1, .int .i64 a2, .int .i64 a3, .int .i64 a4, .int .i64 a5] 23 (0, 0))) :
    w.cell? ⟨g, 0, none⟩ = some (.int .i64 a0) ∧ w.cell? ⟨g, 1, none⟩ = some (.int .i64 a1) ∧ w.cell? ⟨g, 2, none⟩ = some (.int .i64 a2) ∧ w.cell? ⟨g, 3, none⟩ = some (.int .i64 a3) ∧ w.cell? ⟨g, 4, none⟩ = some (.int .i64 a4) ∧ w.cell? ⟨g, 5, none⟩ = some (.int .i64 a5) :=
  ⟨(cell_of_row w g 0 _ 23 (0, 0) h).trans rfl, (cell_of_row w g 1 _ 23 (0, 0) h).trans rfl, (cell_of_row w g 2 _ 23 (0, 0) h).trans rfl, (cell_of_row w g 3 _ 23 (0, 0) h).trans rfl, (cell_of_row w g 4 _ 23 (0, 0) h).trans rfl, (cell_of_row w g 5 _ 23 (0, 0) h).trans rfl⟩
theorem blk_step {w w1 : World} {g : Nat} {o : Obj} (h : w.heap[g]? = some o) (hb : Below w.heap.size w w1) : w1.heap[g]? = some o := (hb.block g (Array.getElem?_eq_some_iff.1 h).1).trans h
set_option maxRecDepth 100000 in
set_option maxHeartbeats 4000000 in
theorem law_calls (a0 a1 a2 a3 a4 a5 : Int) (w : World) : Calls Tryz.prog 3 #[.agg #[.int .i64 a0, .int .i64 a1, .int .i64 a2, .int .i64 a3, .int .i64 a4, .int .i64 a5]] w (LawRes w) := by
  go_enter Tryz.func3, Tryz.ntmps3
  go_wp2_with fail
  refine (new_calls _).mono ?_; rintro e w1 ⟨bw, rfl, hw6, hb1⟩
  go_wp2_with fail
  refine (tape_calls _).mono ?_; rintro e w2 ⟨bt, A, rfl, ht0, ht1, hb2⟩
  go_wp2_with fail
  refine (ideal_calls _).mono ?_; rintro e w3 ⟨bi, rfl, hb3⟩
  have HW := Lib.hid (below_cell hb3 (below_cell hb2 hw6))
  have HT0 := Lib.hid (below_cell hb3 ht0)
  have HT1 := Lib.hid (below_cell hb3 ht1)
  have HX := Lib.hid (blk_step (blk_step (blk_step (heap_alloc_new w (.cells #[.int .i64 a0, .int .i64 a1, .int .i64 a2, .int .i64 a3, .int .i64 a4, .int .i64 a5] 23)) hb1) hb2) hb3)
  have HB := Lib.hid (below_step (below_step (below_step (below_alloc (Below.refl _ _) _) hb1) hb2) hb3)
  clear hw6 ht0 ht1 hb1 hb2 hb3
  obtain ⟨c0, c1, c2, c3, c4, c5⟩ := box6 HX.out
  go_wp2_with fail
  refine (format_calls _ _ _ _ _ _ _ _ _ (fun w => there_w _ _ w) _).mono ?_; rintro e w4 ⟨rfl, hb⟩
  clear c0 c1 c2 c3 c4 c5
  obtain ⟨c0, c1, c2, c3, c4, c5⟩ := box6 (blk_step HX.out hb)
  have HW' := Lib.hid (below_cell hb HW.out)
  have HT0' := Lib.hid (below_cell hb HT0.out)
  have HT1' := Lib.hid (below_cell hb HT1.out)
  have HX' := Lib.hid (blk_step HX.out hb)
  have HB' := Lib.hid (below_step HB.out hb)
  clear HW HT0 HT1 HX HB hb
  have HW := HW'; have HT0 := HT0'; have HT1 := HT1'; have HX := HX'; have HB := HB'
  clear HW' HT0' HT1' HX' HB'
  go_wp2_with fail
  refine (format_calls _ _ _ _ _ _ _ _ _ (fun w => there_t _ _ w) _).mono ?_; rintro e w5 ⟨rfl, hb⟩
  clear c0 c1 c2 c3 c4 c5
  obtain ⟨c0, c1, c2, c3, c4, c5⟩ := box6 (blk_step HX.out hb)
  have HW' := Lib.hid (below_cell hb HW.out)
  have HT0' := Lib.hid (below_cell hb HT0.out)
  have HT1' := Lib.hid (below_cell hb HT1.out)
  have HX' := Lib.hid (blk_step HX.out hb)
  have HB' := Lib.hid (below_step HB.out hb)
  clear HW HT0 HT1 HX HB hb
  have HW := HW'; have HT0 := HT0'; have HT1 := HT1'; have HX := HX'; have HB := HB'
  clear HW' HT0' HT1' HX' HB'
  go_wp2_with fail
  refine (format_calls _ _ _ _ _ _ _ _ _ (fun w => there_s _ _ w) _).mono ?_; rintro e w6 ⟨rfl, hb⟩
  clear c0 c1 c2 c3 c4 c5
  obtain ⟨c0, c1, c2, c3, c4, c5⟩ := box6 (blk_step HX.out hb)
  have HW' := Lib.hid (below_cell hb HW.out)
  have HT0' := Lib.hid (below_cell hb HT0.out)
  have HT1' := Lib.hid (below_cell hb HT1.out)
  have HX' := Lib.hid (blk_step HX.out hb)
  have HB' := Lib.hid (below_step HB.out hb)
  clear HW HT0 HT1 HX HB hb
  have HW := HW'; have HT0 := HT0'; have HT1 := HT1'; have HX := HX'; have HB := HB'
  clear HW' HT0' HT1' HX' HB'
  go_wp2_with fail
  refine (format_calls _ _ _ _ _ _ _ _ _ (fun w => there_i _ _ w) _).mono ?_; rintro e w7 ⟨rfl, hb⟩
  clear c0 c1 c2 c3 c4 c5
  obtain ⟨c0, c1, c2, c3, c4, c5⟩ := box6 (blk_step HX.out hb)
  have HW' := Lib.hid (below_cell hb HW.out)
  have HT0' := Lib.hid (below_cell hb HT0.out)
  have HT1' := Lib.hid (below_cell hb HT1.out)
  have HX' := Lib.hid (blk_step HX.out hb)
  have HB' := Lib.hid (below_step HB.out hb)
  clear HW HT0 HT1 HX HB hb
  have HW := HW'; have HT0 := HT0'; have HT1 := HT1'; have HX := HX'; have HB := HB'
  clear HW' HT0' HT1' HX' HB'
  go_wp2_with fail
  refine (format_calls _ _ _ _ _ _ _ _ _ (fun w => there_r _ _ w) _).mono ?_; rintro e w8 ⟨rfl, hb⟩
  clear c0 c1 c2 c3 c4 c5
  obtain ⟨c0, c1, c2, c3, c4, c5⟩ := box6 (blk_step HX.out hb)
  have HW' := Lib.hid (below_cell hb HW.out)
  have HT0' := Lib.hid (below_cell hb HT0.out)
  have HT1' := Lib.hid (below_cell hb HT1.out)
  have HX' := Lib.hid (blk_step HX.out hb)
  have HB' := Lib.hid (below_step HB.out hb)
  clear HW HT0 HT1 HX HB hb
  have HW := HW'; have HT0 := HT0'; have HT1 := HT1'; have HX := HX'; have HB := HB'
  clear HW' HT0' HT1' HX' HB'
  go_wp2_with fail
  refine (recover_calls _ _ _ _ _ _ _ _ _ (fun w => there_w _ _ w) _).mono ?_; rintro e w9 ⟨rfl, hb⟩
  clear c0 c1 c2 c3 c4 c5
  obtain ⟨c0, c1, c2, c3, c4, c5⟩ := box6 (blk_step HX.out hb)
  have HW' := Lib.hid (below_cell hb HW.out)
  have HT0' := Lib.hid (below_cell hb HT0.out)
  have HT1' := Lib.hid (below_cell hb HT1.out)
  have HX' := Lib.hid (blk_step HX.out hb)
  have HB' := Lib.hid (below_step HB.out hb)
  clear HW HT0 HT1 HX HB hb
  have HW := HW'; have HT0 := HT0'; have HT1 := HT1'; have HX := HX'; have HB := HB'
  clear HW' HT0' HT1' HX' HB'
  go_wp2_with fail
  refine (recover_calls _ _ _ _ _ _ _ _ _ (fun w => there_t _ _ w) _).mono ?_; rintro e w10 ⟨rfl, hb⟩
  clear c0 c1 c2 c3 c4 c5
  obtain ⟨c0, c1, c2, c3, c4, c5⟩ := box6 (blk_step HX.out hb)
  have HW' := Lib.hid (below_cell hb HW.out)
  have HT0' := Lib.hid (below_cell hb HT0.out)
  have HT1' := Lib.hid (below_cell hb HT1.out)
  have HX' := Lib.hid (blk_step HX.out hb)
  have HB' := Lib.hid (below_step HB.out hb)
  clear HW HT0 HT1 HX HB hb
  have HW := HW'; have HT0 := HT0'; have HT1 := HT1'; have HX := HX'; have HB := HB'
  clear HW' HT0' HT1' HX' HB'
  go_wp2_with fail
  refine (recover_calls _ _ _ _ _ _ _ _ _ (fun w => there_s _ _ w) _).mono ?_; rintro e w11 ⟨rfl, hb⟩
  clear c0 c1 c2 c3 c4 c5
  obtain ⟨c0, c1, c2, c3, c4, c5⟩ := box6 (blk_step HX.out hb)
  have HW' := Lib.hid (below_cell hb HW.out)
  have HT0' := Lib.hid (below_cell hb HT0.out)
  have HT1' := Lib.hid (below_cell hb HT1.out)
  have HX' := Lib.hid (blk_step HX.out hb)
  have HB' := Lib.hid (below_step HB.out hb)
  clear HW HT0 HT1 HX HB hb
  have HW := HW'; have HT0 := HT0'; have HT1 := HT1'; have HX := HX'; have HB := HB'
  clear HW' HT0' HT1' HX' HB'
  go_wp2_with fail
  refine (recover_calls _ _ _ _ _ _ _ _ _ (fun w => there_r _ _ w) _).mono ?_; rintro e w12 ⟨rfl, hb⟩
  clear c0 c1 c2 c3 c4 c5
  obtain ⟨c0, c1, c2, c3, c4, c5⟩ := box6 (blk_step HX.out hb)
  have HW' := Lib.hid (below_cell hb HW.out)
  have HT0' := Lib.hid (below_cell hb HT0.out)
  have HT1' := Lib.hid (below_cell hb HT1.out)
  have HX' := Lib.hid (blk_step HX.out hb)
  have HB' := Lib.hid (below_step HB.out hb)
  clear HW HT0 HT1 HX HB hb
  have HW := HW'; have HT0 := HT0'; have HT1 := HT1'; have HX := HX'; have HB := HB'
  clear HW' HT0' HT1' HX' HB'
  go_wp2_with fail
  refine wp_loop_rounds 10 ?_
  repeat any_goals (rw [rounds_succ]; go_wp2_with (first | (go_at_call 9; refine (num_calls _ _).mono ?_; rintro e w' ⟨rfl, rfl⟩) | (go_at_call 10; refine (calls_calls _ _ (below_cell (below_alloc (Below.refl _ _) _) HW.out)).mono ?_; rintro e w' ⟨rfl, rfl⟩) | (go_at_call 11; refine (left_calls _ _ _ (below_cell (below_alloc (Below.refl _ _) _) HT0.out) (below_cell (below_alloc (Below.refl _ _) _) HT1.out)).mono ?_; rintro e w13 ⟨rfl, hb13⟩) | (go_at_call 12; refine (none_calls _).mono ?_; rintro e w14 ⟨rfl, hb14⟩)))
  go_ret
  exact ⟨rfl, below_step (below_step (below_alloc HB.out _) hb13) hb14⟩
end Go.Proofs.YtamemcpdlfjloaaGreatDoor.Vn
