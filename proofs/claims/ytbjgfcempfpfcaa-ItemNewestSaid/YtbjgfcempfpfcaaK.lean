/- Contracts of the layer rect: the reference's. -/
import Derived.Test.YtbjgfcempfpfcaaJ
namespace Go.Proofs.Ytbjgfcempfpfcaa
open Go.RowKit Go.Shelf

set_option maxRecDepth 100000 in
set_option maxHeartbeats 1000000 in
theorem r15_Great (x : View) (A1 A2 : Option Addr) (c1 c2 : Nat) (w : World) :
    Calls Try.prog 16 #[x.v A1 c1 A2 c2] w fun e w' => e = .returned (.bool (greatV x)) ∧ Below w.heap.size w w' := by
  unfold View.v
  go_enter Try.func16, Try.ntmps16
  go_upto_region 1 with (fail)
  refine name_world fun W0 hW0 => ?_
  have hT := one_start hW0
  clear hW0
  have q0 := hT.box.cells.1
  have q1 := hT.box.cells.2.1
  have q2 := hT.box.cells.2.2.1
  have q3 := hT.box.cells.2.2.2.1
  have HLD := Lib.hid (view_size x A1 A2 c1 c2)
  clear HLD
  go_wp2
  all_goals (go_ret; refine ⟨ret_bool ?_, hT.b⟩; rw [Bool.eq_iff_iff]; simp [greatV]; omega)

set_option maxRecDepth 100000 in
set_option maxHeartbeats 1000000 in
theorem r15_Asks (x : View) (A1 A2 : Option Addr) (c1 c2 : Nat) (w : World) (h : RepV w x A1 c1 A2 c2) :
    Calls Try.prog 19 #[x.v A1 c1 A2 c2] w fun e w' => e = .returned (.tuple #[.int .i64 (askP x), .bool (asksV x)]) ∧ Below w.heap.size w w' := by
  unfold View.v
  go_enter Try.func19, Try.ntmps19
  go_upto_region 1 with (fail)
  refine name_world fun W0 hW0 => ?_
  have hT := one_start hW0
  clear hW0
  have q0 := hT.box.cells.1
  have q1 := hT.box.cells.2.1
  have q2 := hT.box.cells.2.2.1
  have q3 := hT.box.cells.2.2.2.1
  have HLD := Lib.hid (view_size x A1 A2 c1 c2)
  refine asks_cases x _ ?_ ?_ ?_ <;> intros <;> rename_i HR
  all_goals (refine wp_region_lit ?_; (refine wpList_load_row_n rfl 25 (.tmp 1) rfl w.heap.size rfl 25 (x.cells A1 c1 A2 c2) (0, 0) _ hT.box Try.underlying25 rfl HLD.out ?_); go_wp2_with (first | (go_at_call 29; refine (r13_Right x A1 A2 c1 c2 _ (h.base.below hT.b) (h.list.below hT.b)).mono ?_; rintro e W1 ⟨rfl, hb1⟩; have hT1 := hT.below hb1; have p0 := hT1.box.cells.1; have p3 := hT1.box.cells.2.2.2.1; clear q0 q1 q2 q3)))
  all_goals (go_ret2; exact ⟨by rw [HR.out.1, HR.out.2]; rfl, hT1.b⟩)

set_option maxRecDepth 100000 in
set_option maxHeartbeats 1000000 in
theorem r15_Owns (x : View) (A1 A2 : Option Addr) (c1 c2 : Nat) (w : World) (h : RepV w x A1 c1 A2 c2) (k : Int) :
    Calls Try.prog 26 #[x.v A1 c1 A2 c2, .int .i64 k] w fun e w' => e = .returned (.bool (ownsV x k)) ∧ Below w.heap.size w w' := by
  unfold View.v
  go_enter Try.func26, Try.ntmps26
  go_upto_region 1 with (fail)
  refine name_world fun W0 hW0 => ?_
  have hT := one_start hW0
  clear hW0
  have q0 := hT.box.cells.1
  have q1 := hT.box.cells.2.1
  have q2 := hT.box.cells.2.2.1
  have q3 := hT.box.cells.2.2.2.1
  have HLD := Lib.hid (view_size x A1 A2 c1 c2)
  refine owns_cases x k _ ?_ ?_ ?_ <;> intros <;> rename_i HR
  all_goals (refine wp_region_lit ?_; (refine wpList_load_row_n rfl 25 (.tmp 2) rfl w.heap.size rfl 25 (x.cells A1 c1 A2 c2) (0, 0) _ hT.box Try.underlying25 rfl HLD.out ?_); go_wp2_with (first | (go_at_call 29; refine (r13_Right x A1 A2 c1 c2 _ (h.base.below hT.b) (h.list.below hT.b)).mono ?_; rintro e W1 ⟨rfl, hb1⟩; have hT1 := hT.below hb1; have p0 := hT1.box.cells.1; have p3 := hT1.box.cells.2.2.2.1; clear q0 q1 q2 q3) | (go_at_call 64; refine (r03_UpTo _ _ _ _).mono ?_; rintro e w' ⟨rfl, rfl⟩)))
  all_goals (go_ret; exact ⟨ret_bool HR.out.symm, hT1.b⟩)

set_option maxRecDepth 100000 in
set_option maxHeartbeats 1000000 in
theorem r15_Better (x : View) (A1 A2 : Option Addr) (c1 c2 : Nat) (w : World) (h : RepV w x A1 c1 A2 c2) (k : Int) :
    Calls Try.prog 21 #[x.v A1 c1 A2 c2, .int .i64 k] w fun e w' => e = .returned (.bool (betterV x k)) ∧ Below w.heap.size w w' := by
  unfold View.v
  go_enter Try.func21, Try.ntmps21
  go_upto_region 1 with (fail)
  refine name_world fun W0 hW0 => ?_
  have hT := one_start hW0
  clear hW0
  have q0 := hT.box.cells.1
  have q1 := hT.box.cells.2.1
  have q2 := hT.box.cells.2.2.1
  have q3 := hT.box.cells.2.2.2.1
  have HLD := Lib.hid (view_size x A1 A2 c1 c2)
  refine better_cases x k _ ?_ ?_ ?_ ?_ ?_ ?_ <;> intros <;> rename_i HR
  all_goals (refine wp_region_lit ?_; (refine wpList_load_row_n rfl 25 (.tmp 2) rfl w.heap.size rfl 25 (x.cells A1 c1 A2 c2) (0, 0) _ hT.box Try.underlying25 rfl HLD.out ?_); go_wp2_with (first | (go_at_call 29; refine (r13_Right x A1 A2 c1 c2 _ (h.base.below hT.b) (h.list.below hT.b)).mono ?_; rintro e W1 ⟨rfl, hb1⟩; have hT1 := hT.below hb1; have p0 := hT1.box.cells.1; have p3 := hT1.box.cells.2.2.2.1; clear q0 q1 q2 q3) | (go_at_call 61; refine (r03_In _ _ _ _).mono ?_; rintro e w' ⟨rfl, rfl⟩)))
  all_goals (go_ret; exact ⟨ret_bool HR.out.symm, hT1.b⟩)
end Go.Proofs.Ytbjgfcempfpfcaa
