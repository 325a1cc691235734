/- slices.Index, slices.Contains; the reference's Ints. -/
import Derived.Test.YtbjgfcempfpfcaaC
namespace Go.Proofs.Ytbjgfcempfpfcaa
open Go.RowKit

set_option maxRecDepth 100000 in
set_option maxHeartbeats 1000000 in
theorem slices_Index (A : Option Addr) (c : Nat) (l : List Int) (v : Int) (w : World) (hs : Sl w A c l) :
    Calls Try.prog 101 #[.slice A l.length c, .int .i64 v] w fun e w' => e = .returned (.int .i64 (idx v l)) ∧ w = w' := by
  have hsm := hs.small
  have hcap := hs.cap
  go_enter Try.func101, Try.ntmps101
  go_wp2
  go_loop [8] (fun i => ∃ k : Nat, k ≤ l.length ∧ i = .int .i64 k ∧ Hid (∀ j, j < k → nth l j ≠ v)) (fun i => l.length - (intOf i).toNat)
  case atStart => exact ⟨0, Nat.zero_le _, rfl, fun j hj => absurd hj (by omega)⟩
  case round =>
    obtain ⟨k, hk, rfl, hw⟩ := hrel
    by_cases hlt : k < l.length
    · obtain ⟨b, off, rfl, _, hcell⟩ := hs.at_ (by omega)
      have hc := hcell k hlt
      clear hcell
      by_cases hv : v = nth l k
      · have hb : (v == nth l k) = true := beq_iff_eq.2 hv
        have HV := Lib.hid hv
        clear hv
        go_wp2
        go_ret
        exact ⟨ret_int (idx_hit hlt HV.out hw.out).symm, rfl⟩
      · have hb : (v == nth l k) = false := beq_eq_false_iff_ne.2 hv
        have HV := Lib.hid hv
        clear hv
        go_wp2
        go_round
        case rel => exact ⟨k + 1, by omega, by go_num, fun j hj => (by
          rcases Nat.lt_or_ge j k with h | h
          · exact hw.out j h
          · have : j = k := by omega
            subst this; exact fun e => HV.out e.symm)⟩
        case measure => simp [intOf]; omega
    · obtain rfl : k = l.length := by omega
      go_wp2
      go_ret
      exact ⟨ret_int (idx_miss hw.out).symm, rfl⟩

set_option maxHeartbeats 1000000 in
theorem slices_Contains (A : Option Addr) (c : Nat) (l : List Int) (v : Int) (w : World) (hs : Sl w A c l) :
    Calls Try.prog 65 #[.slice A l.length c, .int .i64 v] w fun e w' => e = .returned (.bool (decide (v ∈ l))) ∧ w = w' := by
  go_enter Try.func65, Try.ntmps65
  go_wp2_with (go_at_call 101; refine (slices_Index _ _ _ _ _ hs).mono ?_; rintro e w' ⟨rfl, rfl⟩)
  go_ret
  exact ⟨ret_bool (idx_mem v l), rfl⟩

set_option maxRecDepth 100000 in
set_option maxHeartbeats 1000000 in
theorem r12_Ints (A B : Option Addr) (c d : Nat) (l m : List Int) (w : World) (hs : Sl w A c l) (ht : Sl w B d m) :
    Calls Try.prog 48 #[.slice A l.length c, .slice B m.length d] w fun e w' => e = .returned (.bool (decide (l = m))) ∧ ∃ n, w' = w.drewN n := by
  have hsm := hs.small
  by_cases hl : l.length = m.length
  · have hlb : ((l.length : Int) != (m.length : Int)) = false := by simp [hl]
    have HL := Lib.hid hl
    clear hl
    go_enter Try.func48, Try.ntmps48
    go_wp2
    go_loopw [5] (fun i wr => ∃ k : Nat, k ≤ l.length ∧ i = .int .i64 k ∧ Hid (∀ j, j < k → nth l j = nth m j) ∧ Hid (∃ n, wr = w.drewN n)) (fun i _ => l.length - (intOf i).toNat)
    case atStart => exact ⟨0, Nat.zero_le _, rfl, fun j hj => absurd hj (by omega), 0, rfl⟩
    case round =>
      obtain ⟨k, hk, rfl, hall, hw⟩ := hrel
      by_cases hlt : k < l.length
      · have hlt2 : k < m.length := by rw [← HL.out]; exact hlt
        have hs2 : Sl wr A c l := by obtain ⟨n, e⟩ := hw.out; rw [e]; exact hs.drewN n
        have ht2 : Sl wr B d m := by obtain ⟨n, e⟩ := hw.out; rw [e]; exact ht.drewN n
        obtain ⟨b, off, rfl, _, hcell⟩ := hs2.at_ (by omega)
        obtain ⟨b2, off2, rfl, _, hcell2⟩ := ht2.at_ (by omega)
        have hc := hcell k hlt
        have hc2 := hcell2 k hlt2
        clear hcell hcell2
        by_cases hv : nth l k = nth m k
        · have hb : (nth l k != nth m k) = false := by simp [hv]
          have HV := Lib.hid hv
          clear hv
          go_wp2
          go_quiet (fail)
          go_wp2
          go_roundw
          case rel => exact ⟨k + 1, by omega, by go_num, fun j hj => (by
            rcases Nat.lt_or_ge j k with h | h
            · exact hall.out j h
            · have : j = k := by omega
              subst this; exact HV.out), drews hw.out _⟩
          case measure => simp [intOf]; omega
        · have hb : (nth l k != nth m k) = true := by simp [hv]
          have HV := Lib.hid hv
          clear hv
          go_wp2
          go_quiet (fail)
          go_wp2
          go_ret
          exact ⟨ret_bool (by rw [decide_eq_false]; intro e; exact HV.out (by rw [e])), drews hw.out _⟩
      · obtain rfl : k = l.length := by omega
        go_wp2
        go_ret
        exact ⟨ret_bool (by rw [decide_eq_true (eq_of_nth HL.out hall.out)]), hw.out⟩
  · have hlb : ((l.length : Int) != (m.length : Int)) = true := by simp; omega
    have HL := Lib.hid hl
    clear hl
    go_enter Try.func48, Try.ntmps48
    go_wp2
    go_ret
    exact ⟨ret_bool (by rw [decide_eq_false]; intro e; exact HL.out (by rw [e])), 0, rfl⟩
end Go.Proofs.Ytbjgfcempfpfcaa
