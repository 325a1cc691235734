/- Contracts of the arithmetic of places: each call answers as the words of XM say. -/
import Derived.Test.YtbjgfcempfpfcaaProg
import Derived.Test.YtbjgfcempfpfcaaW
import Derived.WalkKit
import Derived.WalkSpells
import Derived.WalkLawsBesides
import Derived.BigQuiet
import Derived.Deep.QuietTactic
import Derived.Lib.Hide
namespace Go.Proofs.Ytbjgfcempfpfcaa
open Go.RowKit

theorem and_mask (x : Int) : bits .and .i64 x 65535 = x % 65536 := by
  have h : BitVec.toNat (BitVec.ofInt 64 x &&& BitVec.ofInt 64 65535) = (x % 65536).toNat := by
    rw [BitVec.toNat_and]
    have h1 : (BitVec.ofInt 64 (65535 : Int)).toNat = 2 ^ 16 - 1 := by decide
    rw [h1, Nat.and_two_pow_sub_one_eq_mod, BitVec.toNat_ofInt]
    have h3 : ((x % (2 : Int) ^ 64).toNat : Int) = x % 18446744073709551616 := by
      rw [Int.toNat_of_nonneg] <;> omega
    omega
  have h2 : bits .and .i64 x 65535 = IntKind.i64.wrap ((BitVec.toNat (BitVec.ofInt 64 x &&& BitVec.ofInt 64 65535) : Nat) : Int) := rfl
  rw [h2, h, IntWalk.i64_in] <;> omega

theorem tmod_k (a : Int) : a.tmod 65536 = if 0 ≤ a then a % 65536 else -((-a) % 65536) := by
  split
  · rename_i h; exact Int.tmod_eq_emod_of_nonneg h
  · rename_i h
    have e : a = -(-a) := by omega
    rw [e, Int.neg_tmod, Int.tmod_eq_emod_of_nonneg (by omega)]; simp

theorem r03_place_eq (a : Int) : (wrap64 (a.tmod 65536 + 65536)).tmod 65536 = place a := by
  have h := tmod_k a
  split at h <;> rw [h, IntWalk.wrap64_in _ (by omega), Int.tmod_eq_emod_of_nonneg (by omega)] <;> unfold place <;> omega

set_option maxHeartbeats 400000 in
theorem arc_Place (a : Int) (w : World) :
    Calls Try.prog 98 #[.int .i64 a] w fun e w' => e = .returned (.int .i64 (place a)) ∧ w = w' := by
  go_enter Try.func98, Try.ntmps98
  go_wp2
  go_ret
  exact ⟨ret_int (and_mask a), rfl⟩

set_option maxHeartbeats 400000 in
theorem arc_Far (a b : Int) (w : World) :
    Calls Try.prog 89 #[.int .i64 a, .int .i64 b] w fun e w' => e = .returned (.int .i64 (far a b)) ∧ w = w' := by
  go_enter Try.func89, Try.ntmps89
  go_wp2_with (go_at_call 98; refine (arc_Place _ _).mono ?_; rintro e w' ⟨rfl, rfl⟩)
  go_ret
  exact ⟨ret_int (by unfold place far wrap64; omega), rfl⟩

set_option maxHeartbeats 400000 in
theorem arc_In (a x b : Int) (w : World) :
    Calls Try.prog 99 #[.int .i64 a, .int .i64 x, .int .i64 b] w fun e w' => e = .returned (.bool (inn a x b)) ∧ w = w' := by
  go_enter Try.func99, Try.ntmps99
  go_wp2_with (go_at_call 89; refine (arc_Far _ _ _).mono ?_; rintro e w' ⟨rfl, rfl⟩)
  all_goals (go_ret; refine ⟨ret_bool ?_, rfl⟩; simp_all [inn])

set_option maxHeartbeats 400000 in
theorem r03_Place (a : Int) (w : World) :
    Calls Try.prog 68 #[.int .i64 a] w fun e w' => e = .returned (.int .i64 (place a)) ∧ w = w' := by
  go_enter Try.func68, Try.ntmps68
  go_wp2
  go_ret
  exact ⟨ret_int (r03_place_eq a), rfl⟩

set_option maxHeartbeats 400000 in
theorem r03_Far (a b : Int) (w : World) :
    Calls Try.prog 30 #[.int .i64 a, .int .i64 b] w fun e w' => e = .returned (.int .i64 (far a b)) ∧ w = w' := by
  go_enter Try.func30, Try.ntmps30
  go_wp2_with (go_at_call 68; refine (r03_Place _ _).mono ?_; rintro e w' ⟨rfl, rfl⟩)
  go_ret
  exact ⟨ret_int (by unfold place far wrap64; omega), rfl⟩

set_option maxHeartbeats 400000 in
theorem r03_In (a x b : Int) (w : World) :
    Calls Try.prog 61 #[.int .i64 a, .int .i64 x, .int .i64 b] w fun e w' => e = .returned (.bool (inn a x b)) ∧ w = w' := by
  go_enter Try.func61, Try.ntmps61
  go_wp2_with (first | (go_at_call 68; refine (r03_Place _ _).mono ?_; rintro e w' ⟨rfl, rfl⟩) | (go_at_call 30; refine (r03_Far _ _ _).mono ?_; rintro e w' ⟨rfl, rfl⟩))
  all_goals (go_ret; refine ⟨ret_bool ?_, rfl⟩)
  all_goals first | exact in_end1 ‹_› | exact in_end2 ‹_› ‹_› | exact in_end3 ‹_›

set_option maxHeartbeats 400000 in
theorem arc_UpTo (a x b : Int) (w : World) :
    Calls Try.prog 63 #[.int .i64 a, .int .i64 x, .int .i64 b] w fun e w' => e = .returned (.bool (upTo a x b)) ∧ w = w' := by
  go_enter Try.func63, Try.ntmps63
  go_wp2_with (first | (go_at_call 99; refine (arc_In _ _ _ _).mono ?_; rintro e w' ⟨rfl, rfl⟩) | (go_at_call 89; refine (arc_Far _ _ _).mono ?_; rintro e w' ⟨rfl, rfl⟩))
  all_goals (go_ret; refine ⟨ret_bool ?_, rfl⟩)
  all_goals first | exact up_end1 ‹_› | exact up_end2

set_option maxHeartbeats 400000 in
theorem r03_UpTo (a x b : Int) (w : World) :
    Calls Try.prog 64 #[.int .i64 a, .int .i64 x, .int .i64 b] w fun e w' => e = .returned (.bool (upTo a x b)) ∧ w = w' := by
  go_enter Try.func64, Try.ntmps64
  go_wp2_with (first | (go_at_call 61; refine (r03_In _ _ _ _).mono ?_; rintro e w' ⟨rfl, rfl⟩) | (go_at_call 68; refine (r03_Place _ _).mono ?_; rintro e w' ⟨rfl, rfl⟩))
  all_goals (go_ret; refine ⟨ret_bool ?_, rfl⟩)
  all_goals first | exact up_end3 ‹_› | exact up_end4 ‹_›

end Go.Proofs.Ytbjgfcempfpfcaa
