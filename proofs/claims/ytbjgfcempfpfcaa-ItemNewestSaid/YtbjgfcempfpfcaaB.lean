/- Contracts: places, who stands behind whom, lists (the reference's, the program's). -/
import Derived.Test.YtbjgfcempfpfcaaA
namespace Go.Proofs.Ytbjgfcempfpfcaa
open Go.RowKit

set_option maxHeartbeats 400000 in
theorem r12_place (a : Int) (w : World) :
    Calls Try.prog 95 #[.int .i64 a] w fun e w' => e = .returned (.bool (isPl a)) ∧ w = w' := by
  go_enter Try.func95, Try.ntmps95
  go_wp2
  all_goals (go_ret; refine ⟨ret_bool ?_, rfl⟩; first | exact isPl_end0 ‹_› | exact isPl_end1 ‹_›)

set_option maxHeartbeats 400000 in
theorem list_place (a : Int) (w : World) :
    Calls Try.prog 120 #[.int .i64 a] w fun e w' => e = .returned (.bool (isPl a)) ∧ w = w' := by
  go_enter Try.func120, Try.ntmps120
  go_wp2
  all_goals (go_ret; refine ⟨ret_bool ?_, rfl⟩; first | exact isPl_end0 ‹_› | exact isPl_end1 ‹_›)

set_option maxHeartbeats 400000 in
theorem r12_farther (x a b : Int) (w : World) :
    Calls Try.prog 96 #[.int .i64 x, .int .i64 a, .int .i64 b] w fun e w' => e = .returned (.bool (decide (far x a < far x b))) ∧ w = w' := by
  go_enter Try.func96, Try.ntmps96
  go_wp2_with (go_at_call 30; refine (r03_Far _ _ _).mono ?_; rintro e w' ⟨rfl, rfl⟩)
  go_ret
  exact ⟨rfl, rfl⟩

set_option maxHeartbeats 400000 in
theorem list_behind (x a n : Int) (w : World) :
    Calls Try.prog 111 #[.int .i64 x, .int .i64 a, .int .i64 n] w fun e w' => e = .returned (.bool (isPl n && decide (far x a < far x n))) ∧ w = w' := by
  go_enter Try.func111, Try.ntmps111
  go_wp2_with (first | (go_at_call 120; refine (list_place _ _).mono ?_; rintro e w' ⟨rfl, rfl⟩) | (go_at_call 89; refine (arc_Far _ _ _).mono ?_; rintro e w' ⟨rfl, rfl⟩))
  all_goals (go_ret; refine ⟨ret_bool ?_, rfl⟩; simp_all)

set_option maxHeartbeats 1000000 in
theorem r12_Right (x : Int) (A : Option Addr) (c : Nat) (l : List Int) (w : World) (hs : Sl w A c l) :
    Calls Try.prog 58 #[.int .i64 x, .slice A l.length c] w fun e w' => e = .returned (.bool (rightL x l)) ∧ ∃ n, w' = w.drewN n := by
  have hcap := hs.cap
  have hsm := hs.small
  go_enter Try.func58, Try.ntmps58
  go_wp2
  go_loopw [5] (fun i wr => ∃ k : Nat, k ≤ l.length ∧ i = .int .i64 k ∧ Hid (allTo k (okAt x l) = true) ∧ Hid (∃ n, wr = w.drewN n)) (fun i _ => l.length - (intOf i).toNat)
  case atStart => exact ⟨0, Nat.zero_le _, rfl, rfl, 0, rfl⟩
  case round =>
    obtain ⟨k, hk, rfl, hall, hw⟩ := hrel
    have hs2 : Sl wr A c l := by obtain ⟨n, e⟩ := hw.out; rw [e]; exact hs.drewN n
    by_cases hlt : k < l.length
    · obtain ⟨b, off, rfl, hblt, hcell⟩ := hs2.at_ (by omega)
      have hc0 := hcell k hlt
      have hc1 : 0 < k → wr.cell? ⟨b, off + (k - 1), none⟩ = some (.int .i64 (nth l (k - 1))) := fun _ => hcell (k - 1) (by omega)
      clear hcell
      cases hP : isPl (nth l k) with
      | false =>
        have HP := Lib.hid hP; clear hP
        go_wp2
        go_quiet ((go_at_call 95; exact qs (r12_place _ _) (vb HP.out)))
        go_wp2
        go_ret
        exact ⟨ret_bool (by rw [rightL, allTo_false hlt (ok_end1 HP.out)]; rfl), drews hw.out _⟩
      | true =>
        cases hE : (nth l k == place x) with
        | true =>
          have HP := Lib.hid hP; clear hP
          go_wp2
          go_quiet ((first | (go_at_call 95; exact qs (r12_place _ _) (vb HP.out)) | (go_at_call 68; exact qs (r03_Place _ _) rfl)))
          go_wp2
          go_ret
          exact ⟨ret_bool (by rw [rightL, allTo_false hlt (ok_end2 HP.out hE)]; rfl), drews hw.out _⟩
        | false =>
          have HP := Lib.hid hP; clear hP
          by_cases hk0 : 0 < k
          · have hc2 := hc1 hk0
            clear hc1
            have e1 : IntKind.i64.wrap ((k : Int) - 1) = ((k - 1 : Nat) : Int) := by rw [IntWalk.i64_in] <;> omega
            cases hF : decide (far x (nth l (k - 1)) < far x (nth l k)) with
            | false =>
              have HF := Lib.hid hF; clear hF
              go_wp2
              go_quiet ((first | (go_at_call 95; exact qs (r12_place _ _) (vb HP.out)) | (go_at_call 68; exact qs (r03_Place _ _) rfl) | (go_at_call 96; exact qs (r12_farther _ _ _ _) (vb HF.out))))
              go_wp2
              go_ret
              exact ⟨ret_bool (by rw [rightL, allTo_false hlt ((ok_end4 HP.out hk0).trans HF.out)]; rfl), drews hw.out _⟩
            | true =>
              have HF := Lib.hid hF; clear hF
              go_wp2
              go_quiet ((first | (go_at_call 95; exact qs (r12_place _ _) (vb HP.out)) | (go_at_call 68; exact qs (r03_Place _ _) rfl) | (go_at_call 96; exact qs (r12_farther _ _ _ _) (vb HF.out))))
              go_wp2
              go_roundw
              case rel => exact ⟨k + 1, by omega, by go_num, allTo_next hall.out ((ok_end4 HP.out hk0).trans HF.out), drews hw.out _⟩
              case measure => simp [intOf]; omega
          · have : k = 0 := by omega
            subst this
            rw [Nat.add_zero] at hc0
            clear hc1
            go_wp2
            go_quiet ((first | (go_at_call 95; exact qs (r12_place _ _) (vb HP.out)) | (go_at_call 68; exact qs (r03_Place _ _) rfl)))
            go_wp2
            go_roundw
            case rel => exact ⟨1, by omega, by go_num, allTo_next hall.out (ok_end3 HP.out hE), drews hw.out _⟩
            case measure => simp [intOf]; omega
    · go_wp2
      go_ret
      have : k = l.length := by omega
      subst this
      exact ⟨ret_bool (by rw [rightL, hall.out]; simp; omega), hw.out⟩
end Go.Proofs.Ytbjgfcempfpfcaa
