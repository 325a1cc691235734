/- Contract: views that may be (the program's). -/
import Derived.Test.YtbjgfcempfpfcaaE
import Derived.Test.YtbjgfcempfpfcaaS
namespace Go.Proofs.Ytbjgfcempfpfcaa
open Go.RowKit Go.Shelf

/-- What holds where view.Right jumps to its end. -/
def VRJ (x : View) (w : World) (a : Act) (w' : World) : Prop := a.defers = [] ∧ a.tmps.size = 76 ∧ rightV x = false ∧ Below w.heap.size w w'

set_option maxRecDepth 10000 in
/-- One finger out of an array by value. -/
theorem fing_index (x : View) {k : Nat} (hk : k < 16) (w : World) : (Instr.index 23 (.agg x.fing) (.int .i64 k)).run Try.prog w = .ok (.int .i64 (x.f k)) w := by
  have : k = 0 ∨ k = 1 ∨ k = 2 ∨ k = 3 ∨ k = 4 ∨ k = 5 ∨ k = 6 ∨ k = 7 ∨ k = 8 ∨ k = 9 ∨ k = 10 ∨ k = 11 ∨ k = 12 ∨ k = 13 ∨ k = 14 ∨ k = 15 := by omega
  rcases this with rfl | rfl | rfl | rfl | rfl | rfl | rfl | rfl | rfl | rfl | rfl | rfl | rfl | rfl | rfl | rfl <;> (refine Eq.trans (b := Result.ok _ w) ?_ rfl; kernel_rfl)

set_option maxRecDepth 100000 in
set_option maxHeartbeats 2000000 in
theorem view_Right_1 (x : View) (A1 A2 : Option Addr) (c1 c2 : Nat) (w : World) (hl : Sl w A2 c2 x.list) (e1 : isPl x.id = false) :
    Calls Try.prog 43 #[x.v A1 c1 A2 c2] w fun e w' => e = .returned (.bool (rightV x)) ∧ Below w.heap.size w w' := by
  have hl1 : ∀ o, Sl (w.alloc o) A2 c2 x.list := fun o => hl.alloc o
  obtain ⟨k0, k1, k2, k3, kz⟩ := x.at_ A1 c1 A2 c2
  clear kz
  unfold View.v
  go_enter Try.func43, Try.ntmps43
  go_wp2
  refine wp_scope_jumps (rest := ?rest) 0 (VRJ x w) (fun _ _ => 0) ?hf ?first ?pass
  case hf => exact rfl
  case pass =>
    rintro a wr ⟨h1, h2, h3, h4⟩
    refine wp_seq (wp_skip ?_)
    refine jump_assign ?_
    show bodyPost Try.prog Try.f43 (fun e w' => e = .returned (.bool (rightV x)) ∧ Below w.heap.size w w') .ret _ _
    refine bodyPost_ret (v := .bool false) ?_ h1 ⟨ret_bool h3.symm, h4⟩
    rw [results_tmp (t := 2) rfl, put_getD (by omega)]
  case first =>
    go_wp2_with (first | (go_at_call 79; refine (view_place _ _).mono ?_; rintro e w' ⟨rfl, rfl⟩) | (refine wp_goto ?_))
    exact ⟨rfl, rfl, rfl, by simp [rightV, headOk, e1], (Below.refl _ _).alloc (Nat.le_refl _) _⟩
set_option maxRecDepth 100000 in
set_option maxHeartbeats 2000000 in
theorem view_Right_2 (x : View) (A1 A2 : Option Addr) (c1 c2 : Nat) (w : World) (hl : Sl w A2 c2 x.list) (e1 : isPl x.id = true) (e2 : decide ((x.base.length : Int) < 2) = true) :
    Calls Try.prog 43 #[x.v A1 c1 A2 c2] w fun e w' => e = .returned (.bool (rightV x)) ∧ Below w.heap.size w w' := by
  have hl1 : ∀ o, Sl (w.alloc o) A2 c2 x.list := fun o => hl.alloc o
  obtain ⟨k0, k1, k2, k3, kz⟩ := x.at_ A1 c1 A2 c2
  clear kz
  unfold View.v
  go_enter Try.func43, Try.ntmps43
  go_wp2
  refine wp_scope_jumps (rest := ?rest) 0 (VRJ x w) (fun _ _ => 0) ?hf ?first ?pass
  case hf => exact rfl
  case pass =>
    rintro a wr ⟨h1, h2, h3, h4⟩
    refine wp_seq (wp_skip ?_)
    refine jump_assign ?_
    show bodyPost Try.prog Try.f43 (fun e w' => e = .returned (.bool (rightV x)) ∧ Below w.heap.size w w') .ret _ _
    refine bodyPost_ret (v := .bool false) ?_ h1 ⟨ret_bool h3.symm, h4⟩
    rw [results_tmp (t := 2) rfl, put_getD (by omega)]
  case first =>
    go_wp2_with (first | (go_at_call 79; refine (view_place _ _).mono ?_; rintro e w' ⟨rfl, rfl⟩) | (refine wp_goto ?_))
    exact ⟨rfl, rfl, rfl, (by simp [rightV, headOk]; have := of_decide_eq_true e2; omega), (Below.refl _ _).alloc (Nat.le_refl _) _⟩
set_option maxRecDepth 100000 in
set_option maxHeartbeats 2000000 in
theorem view_Right_3 (x : View) (A1 A2 : Option Addr) (c1 c2 : Nat) (w : World) (hl : Sl w A2 c2 x.list) (e1 : isPl x.id = true) (e2 : decide ((x.base.length : Int) < 2) = false) (e3 : decide (4 < (x.base.length : Int)) = true) :
    Calls Try.prog 43 #[x.v A1 c1 A2 c2] w fun e w' => e = .returned (.bool (rightV x)) ∧ Below w.heap.size w w' := by
  have hl1 : ∀ o, Sl (w.alloc o) A2 c2 x.list := fun o => hl.alloc o
  obtain ⟨k0, k1, k2, k3, kz⟩ := x.at_ A1 c1 A2 c2
  clear kz
  unfold View.v
  go_enter Try.func43, Try.ntmps43
  go_wp2
  refine wp_scope_jumps (rest := ?rest) 0 (VRJ x w) (fun _ _ => 0) ?hf ?first ?pass
  case hf => exact rfl
  case pass =>
    rintro a wr ⟨h1, h2, h3, h4⟩
    refine wp_seq (wp_skip ?_)
    refine jump_assign ?_
    show bodyPost Try.prog Try.f43 (fun e w' => e = .returned (.bool (rightV x)) ∧ Below w.heap.size w w') .ret _ _
    refine bodyPost_ret (v := .bool false) ?_ h1 ⟨ret_bool h3.symm, h4⟩
    rw [results_tmp (t := 2) rfl, put_getD (by omega)]
  case first =>
    go_wp2_with (first | (go_at_call 79; refine (view_place _ _).mono ?_; rintro e w' ⟨rfl, rfl⟩) | (refine wp_goto ?_))
    exact ⟨rfl, rfl, rfl, (by simp [rightV, headOk]; have := of_decide_eq_true e3; omega), (Below.refl _ _).alloc (Nat.le_refl _) _⟩
set_option maxRecDepth 100000 in
set_option maxHeartbeats 2000000 in
theorem view_Right_4 (x : View) (A1 A2 : Option Addr) (c1 c2 : Nat) (w : World) (hl : Sl w A2 c2 x.list) (e1 : isPl x.id = true) (e2 : decide ((x.base.length : Int) < 2) = false) (e3 : decide (4 < (x.base.length : Int)) = false) (e4 : rightL x.id x.list = false) :
    Calls Try.prog 43 #[x.v A1 c1 A2 c2] w fun e w' => e = .returned (.bool (rightV x)) ∧ Below w.heap.size w w' := by
  have hl1 : ∀ o, Sl (w.alloc o) A2 c2 x.list := fun o => hl.alloc o
  obtain ⟨k0, k1, k2, k3, kz⟩ := x.at_ A1 c1 A2 c2
  clear kz
  unfold View.v
  go_enter Try.func43, Try.ntmps43
  go_wp2
  refine wp_scope_jumps (rest := ?rest) 0 (VRJ x w) (fun _ _ => 0) ?hf ?first ?pass
  case hf => exact rfl
  case pass =>
    rintro a wr ⟨h1, h2, h3, h4⟩
    refine wp_seq (wp_skip ?_)
    refine jump_assign ?_
    show bodyPost Try.prog Try.f43 (fun e w' => e = .returned (.bool (rightV x)) ∧ Below w.heap.size w w') .ret _ _
    refine bodyPost_ret (v := .bool false) ?_ h1 ⟨ret_bool h3.symm, h4⟩
    rw [results_tmp (t := 2) rfl, put_getD (by omega)]
  case first =>
    go_wp2_with (first | (go_at_call 79; refine (view_place _ _).mono ?_; rintro e w' ⟨rfl, rfl⟩) | (refine wp_goto ?_) | (go_at_call 80; refine (list_Right _ _ _ _ _ (hl1 _)).mono ?_; rintro e w' ⟨rfl, hb1⟩; have hv := VBox.below (VBox.new w x A1 c1 A2 c2) hb1 (by simp); have q0 := hv.cells.1; have q1 := hv.cells.2.1; have q3 := hv.cells.2.2.2.1; clear hv))
    exact ⟨rfl, rfl, rfl, by simp [rightV, headOk, e4], ((Below.refl w.heap.size w).alloc (Nat.le_refl _) _).trans (hb1.mono (by simp))⟩
set_option maxRecDepth 100000 in
set_option maxHeartbeats 2000000 in
theorem view_Right_5 (x : View) (A1 A2 : Option Addr) (c1 c2 : Nat) (w : World) (hl : Sl w A2 c2 x.list) (e1 : isPl x.id = true) (e2 : decide ((x.base.length : Int) < 2) = false) (e3 : decide (4 < (x.base.length : Int)) = false) (e4 : rightL x.id x.list = true) (e5 : other x.id x.pred = false) :
    Calls Try.prog 43 #[x.v A1 c1 A2 c2] w fun e w' => e = .returned (.bool (rightV x)) ∧ Below w.heap.size w w' := by
  have hl1 : ∀ o, Sl (w.alloc o) A2 c2 x.list := fun o => hl.alloc o
  obtain ⟨k0, k1, k2, k3, kz⟩ := x.at_ A1 c1 A2 c2
  clear kz
  unfold View.v
  go_enter Try.func43, Try.ntmps43
  go_wp2
  refine wp_scope_jumps (rest := ?rest) 0 (VRJ x w) (fun _ _ => 0) ?hf ?first ?pass
  case hf => exact rfl
  case pass =>
    rintro a wr ⟨h1, h2, h3, h4⟩
    refine wp_seq (wp_skip ?_)
    refine jump_assign ?_
    show bodyPost Try.prog Try.f43 (fun e w' => e = .returned (.bool (rightV x)) ∧ Below w.heap.size w w') .ret _ _
    refine bodyPost_ret (v := .bool false) ?_ h1 ⟨ret_bool h3.symm, h4⟩
    rw [results_tmp (t := 2) rfl, put_getD (by omega)]
  case first =>
    go_wp2_with (first | (go_at_call 79; refine (view_place _ _).mono ?_; rintro e w' ⟨rfl, rfl⟩) | (refine wp_goto ?_) | (go_at_call 80; refine (list_Right _ _ _ _ _ (hl1 _)).mono ?_; rintro e w' ⟨rfl, hb1⟩; have hv := VBox.below (VBox.new w x A1 c1 A2 c2) hb1 (by simp); have q0 := hv.cells.1; have q1 := hv.cells.2.1; have q3 := hv.cells.2.2.2.1; clear hv) | (go_at_call 78; refine (view_Right1 _ _ _ _ q0).mono ?_; rintro e w' ⟨rfl, rfl⟩))
    exact ⟨rfl, rfl, rfl, by simp [rightV, headOk, e5], ((Below.refl w.heap.size w).alloc (Nat.le_refl _) _).trans (hb1.mono (by simp))⟩
set_option maxRecDepth 100000 in
set_option maxHeartbeats 2000000 in
theorem view_Right_6 (x : View) (A1 A2 : Option Addr) (c1 c2 : Nat) (w : World) (hl : Sl w A2 c2 x.list) (hb : Sl w A1 c1 x.base) (e1 : isPl x.id = true) (e2 : decide ((x.base.length : Int) < 2) = false) (e3 : decide (4 < (x.base.length : Int)) = false) (e4 : rightL x.id x.list = true) (e5 : other x.id x.pred = true) :
    Calls Try.prog 43 #[x.v A1 c1 A2 c2] w fun e w' => e = .returned (.bool (rightV x)) ∧ Below w.heap.size w w' := by
  have hl1 : ∀ o, Sl (w.alloc o) A2 c2 x.list := fun o => hl.alloc o
  obtain ⟨k0, k1, k2, k3, kz⟩ := x.at_ A1 c1 A2 c2
  clear kz
  unfold View.v
  go_enter Try.func43, Try.ntmps43
  go_wp2
  refine wp_scope_jumps (rest := ?rest) 0 (VRJ x w) (fun _ _ => 0) ?hf ?first ?pass
  case hf => exact rfl
  case pass =>
    rintro a wr ⟨h1, h2, h3, h4⟩
    refine wp_seq (wp_skip ?_)
    refine jump_assign ?_
    show bodyPost Try.prog Try.f43 (fun e w' => e = .returned (.bool (rightV x)) ∧ Below w.heap.size w w') .ret _ _
    refine bodyPost_ret (v := .bool false) ?_ h1 ⟨ret_bool h3.symm, h4⟩
    rw [results_tmp (t := 2) rfl, put_getD (by omega)]
  case first =>
    go_wp2_with (first | (go_at_call 79; refine (view_place _ _).mono ?_; rintro e w' ⟨rfl, rfl⟩) | (refine wp_goto ?_) | (go_at_call 80; refine (list_Right _ _ _ _ _ (hl1 _)).mono ?_; rintro e w' ⟨rfl, hb1⟩; have hv := VBox.below (VBox.new w x A1 c1 A2 c2) hb1 (by simp); have q0 := hv.cells.1; have q1 := hv.cells.2.1; have q3 := hv.cells.2.2.2.1; clear hv) | (go_at_call 78; refine (view_Right1 _ _ _ _ q0).mono ?_; rintro e w' ⟨rfl, rfl⟩))
    have hB := Lib.hid (((Below.refl w.heap.size w).alloc (Nat.le_refl _) (.cells (x.cells A1 c1 A2 c2) 25)).trans (hb1.mono (by simp)))
    have hV := Lib.hid (VBox.below (W := w.alloc (.cells (x.cells A1 c1 A2 c2) 25)) (VBox.new w x A1 c1 A2 c2) hb1 (by simp))
    clear hb1 q3
    have hh : headOk x = true := by
      have e2' := of_decide_eq_false e2
      have e3' := of_decide_eq_false e3
      simp only [headOk, e1, e4, e5, Bool.true_and, Bool.and_true, Bool.and_eq_true, decide_eq_true_eq]; omega
    have HH := Lib.hid hh
    clear hh e1 e2 e3 e4 e5
    have hsm := hb.small
    have hcap := hb.cap
    go_loopw [43] (fun i wr => ∃ k : Nat, k ≤ x.base.length ∧ i = .int .i64 k ∧ Hid (allTo k (baseOk x.base) = true) ∧ Hid (VBox wr w.heap.size x A1 c1 A2 c2) ∧ Hid (Below w.heap.size w wr)) (fun i _ => x.base.length - (intOf i).toNat)
    case atStart => exact ⟨0, Nat.zero_le _, rfl, rfl, hV, hB⟩
    case round =>
      clear hV hB q0 q1
      obtain ⟨k, hk, rfl, hall, hV, hB⟩ := hrel
      have q1 := hV.out.cells.2.1
      by_cases hlt : k < x.base.length
      · obtain ⟨b, off, rfl, _, hcell⟩ := (hb.below hB.out).at_ (by omega)
        have hc0 := hcell k hlt
        have hc1 : 0 < k → wr.cell? ⟨b, off + (k - 1), none⟩ = some (.int .i64 (nth x.base (k - 1))) := fun _ => hcell (k - 1) (by omega)
        clear hcell
        cases hP : isPl (nth x.base k) with
        | false =>
          go_wp2_with (first | (go_at_call 79; refine (view_place _ _).mono ?_; rintro e w' ⟨rfl, rfl⟩) | (refine wp_goto ?_))
          exact ⟨rfl, rfl, rfl, not_right1 hlt (base_end1 hP), hB.out⟩
        | true =>
          by_cases hk0 : 0 < k
          · have hc2 := hc1 hk0
            clear hc1
            have e1 : IntKind.i64.wrap ((k : Int) - 1) = ((k - 1 : Nat) : Int) := by rw [IntWalk.i64_in] <;> omega
            cases hF : decide (nth x.base k ≤ nth x.base (k - 1)) with
            | false =>
              go_wp2_with (first | (go_at_call 79; refine (view_place _ _).mono ?_; rintro e w' ⟨rfl, rfl⟩) | (refine wp_goto ?_))
              go_roundw
              case rel => exact ⟨k + 1, by omega, by go_num, allTo_next hall.out ((base_end3 hP hk0).trans (by rw [hF]; rfl)), hV, hB⟩
              case measure => simp [intOf]; omega
            | true =>
              go_wp2_with (first | (go_at_call 79; refine (view_place _ _).mono ?_; rintro e w' ⟨rfl, rfl⟩) | (refine wp_goto ?_))
              exact ⟨rfl, rfl, rfl, not_right1 hlt ((base_end3 hP hk0).trans (by rw [hF]; rfl)), hB.out⟩
          · have : k = 0 := by omega
            subst this
            rw [Nat.add_zero] at hc0
            clear hc1
            go_wp2_with (first | (go_at_call 79; refine (view_place _ _).mono ?_; rintro e w' ⟨rfl, rfl⟩) | (refine wp_goto ?_))
            go_roundw
            case rel => exact ⟨1, by omega, by go_num, allTo_next hall.out (base_end2 hP), hV, hB⟩
            case measure => simp [intOf]; omega
      · obtain rfl : k = x.base.length := by omega
        go_wp2_with (refine wpList_load_fing rfl 23 (.tmp 66) rfl w.heap.size 4 rfl x.fing _ hV.out.range Try.underlying23 rfl (by kernel_rfl) ?_)
        go_loopw [68] (fun i wr => ∃ k : Nat, k ≤ 16 ∧ i = .int .i64 k ∧ Hid (allTo k (fun k => other x.id (x.f k)) = true) ∧ Hid (VBox wr w.heap.size x A1 c1 A2 c2) ∧ Hid (Below w.heap.size w wr)) (fun i _ => 16 - (intOf i).toNat)
        case atStart => exact ⟨0, Nat.zero_le _, rfl, rfl, hV, hB⟩
        case round =>
          clear hV hB q1
          obtain ⟨k, hk, rfl, hall2, hV, hB⟩ := hrel
          have q0 := hV.out.cells.1
          by_cases hlt : k < 16
          · have hi := fing_index x hlt
            cases ho : other x.id (x.f k) with
            | true =>
              go_wp2_with (first | (go_at_call 78; refine (view_Right1 _ _ _ _ q0).mono ?_; rintro e w' ⟨rfl, rfl⟩) | (refine wp_goto ?_))
              go_roundw
              case rel => exact ⟨k + 1, by omega, by go_num, allTo_next hall2.out ho, hV, hB⟩
              case measure => simp [intOf]; omega
            | false =>
              go_wp2_with (first | (go_at_call 78; refine (view_Right1 _ _ _ _ q0).mono ?_; rintro e w' ⟨rfl, rfl⟩) | (refine wp_goto ?_))
              exact ⟨rfl, rfl, rfl, not_right2 hlt ho, hB.out⟩
          · obtain rfl : k = 16 := by omega
            go_wp2
            show bodyPost Try.prog Try.f43 (fun e w' => e = .returned (.bool (rightV x)) ∧ Below w.heap.size w w') .ret _ _
            go_ret
            exact ⟨ret_bool (right_of HH.out hall.out hall2.out).symm, hB.out⟩

theorem view_Right (x : View) (A1 A2 : Option Addr) (c1 c2 : Nat) (w : World) (hb : Sl w A1 c1 x.base) (hl : Sl w A2 c2 x.list) :
    Calls Try.prog 43 #[x.v A1 c1 A2 c2] w fun e w' => e = .returned (.bool (rightV x)) ∧ Below w.heap.size w w' :=
  head_cases x _ (fun e1 => view_Right_1 x A1 A2 c1 c2 w hl e1) (fun e1 e2 => view_Right_2 x A1 A2 c1 c2 w hl e1 (decide_eq_true (by omega))) (fun e1 e2 => view_Right_3 x A1 A2 c1 c2 w hl e1 (decide_eq_false (by omega)) (decide_eq_true (by omega))) (fun e1 e2 e3 e4 => view_Right_4 x A1 A2 c1 c2 w hl e1 (decide_eq_false (by omega)) (decide_eq_false (by omega)) e4)
    (fun e1 e2 e3 e4 e5 => view_Right_5 x A1 A2 c1 c2 w hl e1 (decide_eq_false (by omega)) (decide_eq_false (by omega)) e4 e5) (fun e1 e2 e3 e4 e5 => view_Right_6 x A1 A2 c1 c2 w hl hb e1 (decide_eq_false (by omega)) (decide_eq_false (by omega)) e4 e5)
end Go.Proofs.Ytbjgfcempfpfcaa
