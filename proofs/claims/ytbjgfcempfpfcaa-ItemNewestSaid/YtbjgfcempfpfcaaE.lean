/- Contracts: who may stand in a view; views that may be (the reference's). -/
import Derived.Test.YtbjgfcempfpfcaaB
import Derived.StillTailTactics
namespace Go.Proofs.Ytbjgfcempfpfcaa
open Go.RowKit

set_option maxHeartbeats 400000 in
theorem r13_place (a : Int) (w : World) :
    Calls Try.prog 66 #[.int .i64 a] w fun e w' => e = .returned (.bool (isPl a)) ∧ w = w' := by
  go_enter Try.func66, Try.ntmps66
  go_wp2
  all_goals (go_ret; refine ⟨ret_bool ?_, rfl⟩; first | exact isPl_end0 ‹_› | exact isPl_end1 ‹_›)

set_option maxHeartbeats 400000 in
theorem view_place (a : Int) (w : World) :
    Calls Try.prog 79 #[.int .i64 a] w fun e w' => e = .returned (.bool (isPl a)) ∧ w = w' := by
  go_enter Try.func79, Try.ntmps79
  go_wp2
  all_goals (go_ret; refine ⟨ret_bool ?_, rfl⟩; first | exact isPl_end0 ‹_› | exact isPl_end1 ‹_›)

set_option maxRecDepth 100000 in
set_option maxHeartbeats 1000000 in
theorem r13_other (x : View) (A1 A2 : Option Addr) (c1 c2 : Nat) (n : Int) (w : World) :
    Calls Try.prog 67 #[x.v A1 c1 A2 c2, .int .i64 n] w fun e w' => e = .returned (.bool (other x.id n)) ∧ Below w.heap.size w w' := by
  unfold View.v View.cells
  go_enter Try.func67, Try.ntmps67
  go_wp2_with (go_at_call 66; refine (r13_place _ _).mono ?_; rintro e w' ⟨rfl, rfl⟩)
  all_goals (go_ret; refine ⟨ret_bool ?_, (Below.refl _ _).alloc (Nat.le_refl _) _⟩; simp_all [other])

set_option maxRecDepth 100000 in
set_option maxHeartbeats 1000000 in
/-- The closure of view.Right over a view's box. -/
theorem view_Right1 (id : Int) (b : Nat) (n : Int) (w : World) (hc : w.cell? ⟨b, 0, none⟩ = some (.int .i64 id)) :
    Calls Try.prog 78 #[.int .i64 n, .pointer (some ⟨b, 0, none⟩)] w fun e w' => e = .returned (.bool (other id n)) ∧ w = w' := by
  go_enter Try.func78, Try.ntmps78
  go_wp2_with (go_at_call 79; refine (view_place _ _).mono ?_; rintro e w' ⟨rfl, rfl⟩)
  all_goals (go_ret; refine ⟨ret_bool ?_, rfl⟩; simp_all [other])

theorem head_cases (x : View) (P : Prop) (h1 : isPl x.id = false → P) (h2 : isPl x.id = true → x.base.length < 2 → P) (h3 : isPl x.id = true → 4 < x.base.length → P)
    (h4 : isPl x.id = true → 2 ≤ x.base.length → x.base.length ≤ 4 → rightL x.id x.list = false → P)
    (h5 : isPl x.id = true → 2 ≤ x.base.length → x.base.length ≤ 4 → rightL x.id x.list = true → other x.id x.pred = false → P)
    (h6 : isPl x.id = true → 2 ≤ x.base.length → x.base.length ≤ 4 → rightL x.id x.list = true → other x.id x.pred = true → P) : P := by
  cases e1 : isPl x.id with
  | false => exact h1 e1
  | true =>
    rcases Nat.lt_or_ge x.base.length 2 with e2 | e2
    · exact h2 e1 e2
    · rcases Nat.lt_or_ge 4 x.base.length with e3 | e3
      · exact h3 e1 e3
      · cases e4 : rightL x.id x.list with
        | false => exact h4 e1 e2 e3 e4
        | true =>
          cases e5 : other x.id x.pred with
          | false => exact h5 e1 e2 e3 e4 e5
          | true => exact h6 e1 e2 e3 e4 e5

set_option maxRecDepth 100000 in
set_option maxHeartbeats 1000000 in
theorem r13_Right_1 (x : View) (A1 A2 : Option Addr) (c1 c2 : Nat) (w : World) (hl : Sl w A2 c2 x.list) (e1 : isPl x.id = false) :
    Calls Try.prog 29 #[x.v A1 c1 A2 c2] w fun e w' => e = .returned (.bool (rightV x)) ∧ Below w.heap.size w w' := by
  unfold View.v View.cells
  have hl1 : ∀ o, Sl (w.alloc o) A2 c2 x.list := fun o => hl.alloc o
  go_enter Try.func29, Try.ntmps29
  go_wp2_with (first | (go_at_call 66; refine (r13_place _ _).mono ?_; rintro e w' ⟨rfl, rfl⟩))
  go_ret
  exact ⟨ret_bool (by simp [rightV, headOk, e1]), (Below.refl _ _).alloc (Nat.le_refl _) _⟩
set_option maxRecDepth 100000 in
set_option maxHeartbeats 1000000 in
theorem r13_Right_2 (x : View) (A1 A2 : Option Addr) (c1 c2 : Nat) (w : World) (hl : Sl w A2 c2 x.list) (e1 : isPl x.id = true) (e2 : x.base.length < 2) :
    Calls Try.prog 29 #[x.v A1 c1 A2 c2] w fun e w' => e = .returned (.bool (rightV x)) ∧ Below w.heap.size w w' := by
  unfold View.v View.cells
  have hl1 : ∀ o, Sl (w.alloc o) A2 c2 x.list := fun o => hl.alloc o
  go_enter Try.func29, Try.ntmps29
  go_wp2_with (first | (go_at_call 66; refine (r13_place _ _).mono ?_; rintro e w' ⟨rfl, rfl⟩))
  go_ret
  exact ⟨ret_bool (by simp [rightV, headOk]; omega), (Below.refl _ _).alloc (Nat.le_refl _) _⟩
set_option maxRecDepth 100000 in
set_option maxHeartbeats 1000000 in
theorem r13_Right_3 (x : View) (A1 A2 : Option Addr) (c1 c2 : Nat) (w : World) (hl : Sl w A2 c2 x.list) (e1 : isPl x.id = true) (e2 : 4 < x.base.length) :
    Calls Try.prog 29 #[x.v A1 c1 A2 c2] w fun e w' => e = .returned (.bool (rightV x)) ∧ Below w.heap.size w w' := by
  unfold View.v View.cells
  have hl1 : ∀ o, Sl (w.alloc o) A2 c2 x.list := fun o => hl.alloc o
  go_enter Try.func29, Try.ntmps29
  go_wp2_with (first | (go_at_call 66; refine (r13_place _ _).mono ?_; rintro e w' ⟨rfl, rfl⟩))
  go_ret
  exact ⟨ret_bool (by simp [rightV, headOk]; omega), (Below.refl _ _).alloc (Nat.le_refl _) _⟩
set_option maxRecDepth 100000 in
set_option maxHeartbeats 1000000 in
theorem r13_Right_4 (x : View) (A1 A2 : Option Addr) (c1 c2 : Nat) (w : World) (hl : Sl w A2 c2 x.list) (e1 : isPl x.id = true) (e2 : 2 ≤ x.base.length) (e3 : x.base.length ≤ 4) (e4 : rightL x.id x.list = false) :
    Calls Try.prog 29 #[x.v A1 c1 A2 c2] w fun e w' => e = .returned (.bool (rightV x)) ∧ Below w.heap.size w w' := by
  unfold View.v View.cells
  have hl1 : ∀ o, Sl (w.alloc o) A2 c2 x.list := fun o => hl.alloc o
  go_enter Try.func29, Try.ntmps29
  go_wp2_with (first | (go_at_call 66; refine (r13_place _ _).mono ?_; rintro e w' ⟨rfl, rfl⟩) | (go_at_call 58; refine (r12_Right _ _ _ _ _ (hl1 _)).mono ?_; rintro e w' ⟨rfl, n1, rfl⟩))
  go_ret
  exact ⟨ret_bool (by simp [rightV, headOk, e4]), Below.drewN ((Below.refl _ _).alloc (Nat.le_refl _) _) _⟩
set_option maxRecDepth 100000 in
set_option maxHeartbeats 2000000 in
theorem r13_Right_5 (x : View) (A1 A2 : Option Addr) (c1 c2 : Nat) (w : World) (hl : Sl w A2 c2 x.list) (e1 : isPl x.id = true) (e2 : decide ((x.base.length : Int) < 2) = false) (e3 : decide (4 < (x.base.length : Int)) = false) (e4 : rightL x.id x.list = true) (e5 : other x.id x.pred = false) :
    Calls Try.prog 29 #[x.v A1 c1 A2 c2] w fun e w' => e = .returned (.bool (rightV x)) ∧ Below w.heap.size w w' := by
  have ho := r13_other x A1 A2 c1 c2
  have hl1 : ∀ o, Sl (w.alloc o) A2 c2 x.list := fun o => hl.alloc o
  obtain ⟨k0, k1, k2, k3, kz⟩ := x.at_ A1 c1 A2 c2
  have hld : (Try.prog.info? 25).map (·.size) = some (x.cells A1 c1 A2 c2).size := by rw [kz]; kernel_rfl
  clear kz
  have HLD := Lib.hid hld
  clear hld
  have HO := Lib.hid ho
  clear ho
  unfold View.v at HO ⊢
  go_enter Try.func29, Try.ntmps29
  go_wp2_with (first | (go_at_call 66; refine (r13_place _ _).mono ?_; rintro e w' ⟨rfl, rfl⟩) | (go_at_call 58; refine (r12_Right _ _ _ _ _ (hl1 _)).mono ?_; rintro e w' ⟨rfl, n1, rfl⟩) | (go_at_call 67; refine (HO.out _ _).mono ?_; rintro e w' ⟨rfl, hb1⟩) | (refine wpList_load_row_g rfl 25 (.tmp 1) rfl w.heap.size rfl 25 (x.cells A1 c1 A2 c2) (0, 0) _ (VBox.new w x A1 c1 A2 c2) Try.underlying25 rfl HLD.out ?_))
  go_ret
  exact ⟨ret_bool (by simp [rightV, headOk, e5]), (Below.drewN ((Below.refl _ _).alloc (Nat.le_refl _) _) _).trans (hb1.mono (by simp))⟩

set_option maxRecDepth 100000 in
set_option maxHeartbeats 2000000 in
theorem r13_Right_6 (x : View) (A1 A2 : Option Addr) (c1 c2 : Nat) (w : World) (hl : Sl w A2 c2 x.list) (hb : Sl w A1 c1 x.base) (e1 : isPl x.id = true) (e2 : decide ((x.base.length : Int) < 2) = false) (e3 : decide (4 < (x.base.length : Int)) = false) (e4 : rightL x.id x.list = true) (e5 : other x.id x.pred = true) :
    Calls Try.prog 29 #[x.v A1 c1 A2 c2] w fun e w' => e = .returned (.bool (rightV x)) ∧ Below w.heap.size w w' := by
  have ho := r13_other x A1 A2 c1 c2
  have hl1 : ∀ o, Sl (w.alloc o) A2 c2 x.list := fun o => hl.alloc o
  obtain ⟨k0, k1, k2, k3, kz⟩ := x.at_ A1 c1 A2 c2
  have hld : (Try.prog.info? 25).map (·.size) = some (x.cells A1 c1 A2 c2).size := by rw [kz]; kernel_rfl
  clear kz
  have HLD := Lib.hid hld
  clear hld
  have HO := Lib.hid ho
  clear ho
  unfold View.v at HO ⊢
  go_enter Try.func29, Try.ntmps29
  go_wp2_with (first | (go_at_call 66; refine (r13_place _ _).mono ?_; rintro e w' ⟨rfl, rfl⟩) | (go_at_call 58; refine (r12_Right _ _ _ _ _ (hl1 _)).mono ?_; rintro e w' ⟨rfl, n1, rfl⟩) | (go_at_call 67; refine (HO.out _ _).mono ?_; rintro e w' ⟨rfl, hb1⟩) | (refine wpList_load_row_g rfl 25 (.tmp 1) rfl w.heap.size rfl 25 (x.cells A1 c1 A2 c2) (0, 0) _ (VBox.new w x A1 c1 A2 c2) Try.underlying25 rfl HLD.out ?_))
  have hB := Lib.hid ((Below.drewN ((Below.refl w.heap.size w).alloc (Nat.le_refl _) (.cells (x.cells A1 c1 A2 c2) 25)) n1).trans (hb1.mono (by simp)))
  have hV := Lib.hid (VBox.below (W := (w.alloc (.cells (x.cells A1 c1 A2 c2) 25)).drewN n1) (VBox.new w x A1 c1 A2 c2) hb1 (by simp))
  clear hb1
  have hh : headOk x = true := by
    have e2' := of_decide_eq_false e2
    have e3' := of_decide_eq_false e3
    simp only [headOk, e1, e4, e5, Bool.true_and, Bool.and_true, Bool.and_eq_true, decide_eq_true_eq]; omega
  have HH := Lib.hid hh
  clear hh
  go_loopw [3] (fun i wr => ∃ k : Nat, k ≤ x.base.length ∧ i = .int .i64 k ∧ Hid (allTo k (baseOk x.base) = true) ∧ Hid (VBox wr w.heap.size x A1 c1 A2 c2) ∧ Hid (Below w.heap.size w wr)) (fun i _ => x.base.length - (intOf i).toNat)
  case atStart => exact ⟨0, Nat.zero_le _, rfl, rfl, hV, hB⟩
  case round =>
    clear hV hB
    obtain ⟨k, hk, rfl, hall, hV, hB⟩ := hrel
    have hsm := hb.small
    have hcap := hb.cap
    have v1 := hV.out.cells.2.1
    by_cases hlt : k < x.base.length
    · obtain ⟨b, off, rfl, _, hcell⟩ := (hb.below hB.out).at_ (by omega)
      have hc0 := hcell k hlt
      have hc1 : 0 < k → wr.cell? ⟨b, off + (k - 1), none⟩ = some (.int .i64 (nth x.base (k - 1))) := fun _ => hcell (k - 1) (by omega)
      clear hcell
      cases hP : isPl (nth x.base k) with
      | false =>
        have HP := Lib.hid hP; clear hP
        go_wp2
        go_quiet ((go_at_call 66; exact qs (r13_place _ _) (vb HP.out)))
        go_wp2
        go_ret
        exact ⟨ret_bool (not_right1 hlt (base_end1 HP.out)).symm, Below.drewN hB.out _⟩
      | true =>
        by_cases hk0 : 0 < k
        · have hc2 := hc1 hk0
          clear hc1
          have e1 : IntKind.i64.wrap ((k : Int) - 1) = ((k - 1 : Nat) : Int) := by rw [IntWalk.i64_in] <;> omega
          cases hF : decide (nth x.base k ≤ nth x.base (k - 1)) with
          | false =>
            have HP := Lib.hid hP; clear hP
            go_wp2
            go_quiet ((go_at_call 66; exact qs (r13_place _ _) (vb HP.out)))
            go_wp2
            go_roundw
            case rel => exact ⟨k + 1, by omega, by go_num, allTo_next hall.out ((base_end3 HP.out hk0).trans (by rw [hF]; rfl)), hV, Below.drewN hB.out _⟩
            case measure => simp [intOf]; omega
          | true =>
            have HP := Lib.hid hP; clear hP
            go_wp2
            go_quiet ((go_at_call 66; exact qs (r13_place _ _) (vb HP.out)))
            go_wp2
            go_ret
            exact ⟨ret_bool (not_right1 hlt ((base_end3 HP.out hk0).trans (by rw [hF]; rfl))).symm, Below.drewN hB.out _⟩
        · have : k = 0 := by omega
          subst this
          rw [Nat.add_zero] at hc0
          clear hc1
          have HP := Lib.hid hP; clear hP
          go_wp2
          go_quiet ((go_at_call 66; exact qs (r13_place _ _) (vb HP.out)))
          go_wp2
          go_roundw
          case rel => exact ⟨1, by omega, by go_num, allTo_next hall.out (base_end2 HP.out), hV, Below.drewN hB.out _⟩
          case measure => simp [intOf]; omega
    · obtain rfl : k = x.base.length := by omega
      go_wp2
      go_loopw [4] (fun i wr => ∃ k : Nat, k ≤ 16 ∧ i = .int .i64 k ∧ Hid (allTo k (fun k => other x.id (x.f k)) = true) ∧ Hid (VBox wr w.heap.size x A1 c1 A2 c2) ∧ Hid (Below w.heap.size w wr)) (fun i _ => 16 - (intOf i).toNat)
      case atStart => exact ⟨0, Nat.zero_le _, rfl, rfl, hV, hB⟩
      case round =>
        clear hV hB v1
        obtain ⟨k, hk, rfl, hall2, hV, hB⟩ := hrel
        by_cases hlt : k < 16
        · have hf := hV.out.finger hlt
          go_wp2
          refine region_tail 5 (by kernel_rfl) (by kernel_rfl) ?_
          simp only [List.take_succ_cons, List.take_zero, List.drop_succ_cons, List.drop_zero]
          refine wpStill_load_row rfl 25 (.tmp 1) rfl w.heap.size rfl 25 (x.cells A1 c1 A2 c2) (0, 0) _ hV.out Try.underlying25 rfl HLD.out ?_
          repeat still_step
          refine wpStill_nil ?_
          cases ho : other x.id (x.f k) with
          | true =>
            go_wp2_with (go_at_call 67; refine (HO.out _ _).mono ?_; rintro e w' ⟨rfl, hb1⟩)
            go_roundw
            case rel => exact ⟨k + 1, by omega, by go_num, allTo_next hall2.out ho, VBox.below (W := wr.drew) hV.out hb1 hV.out.lt, (hB.out.drew).trans (hb1.mono hB.out.size)⟩
            case measure => simp [intOf]; omega
          | false =>
            go_wp2_with (go_at_call 67; refine (HO.out _ _).mono ?_; rintro e w' ⟨rfl, hb1⟩)
            go_ret
            exact ⟨ret_bool (not_right2 hlt ho).symm, (hB.out.drew).trans (hb1.mono hB.out.size)⟩
        · obtain rfl : k = 16 := by omega
          go_wp2
          go_ret
          exact ⟨ret_bool (right_of HH.out hall.out hall2.out).symm, hB.out⟩

theorem r13_Right (x : View) (A1 A2 : Option Addr) (c1 c2 : Nat) (w : World) (hb : Sl w A1 c1 x.base) (hl : Sl w A2 c2 x.list) :
    Calls Try.prog 29 #[x.v A1 c1 A2 c2] w fun e w' => e = .returned (.bool (rightV x)) ∧ Below w.heap.size w w' :=
  head_cases x _ (fun e1 => r13_Right_1 x A1 A2 c1 c2 w hl e1) (fun e1 e2 => r13_Right_2 x A1 A2 c1 c2 w hl e1 e2) (fun e1 e2 => r13_Right_3 x A1 A2 c1 c2 w hl e1 e2) (fun e1 e2 e3 e4 => r13_Right_4 x A1 A2 c1 c2 w hl e1 e2 e3 e4)
    (fun e1 e2 e3 e4 e5 => r13_Right_5 x A1 A2 c1 c2 w hl e1 (decide_eq_false (by omega)) (decide_eq_false (by omega)) e4 e5) (fun e1 e2 e3 e4 e5 => r13_Right_6 x A1 A2 c1 c2 w hl hb e1 (decide_eq_false (by omega)) (decide_eq_false (by omega)) e4 e5)
end Go.Proofs.Ytbjgfcempfpfcaa
