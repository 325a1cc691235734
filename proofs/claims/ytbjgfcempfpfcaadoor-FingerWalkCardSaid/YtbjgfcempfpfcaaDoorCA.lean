/- Words of the layer finger; contracts: owners of keys, where fingers begin. -/
import Derived.Test.YtbjgfcempfpfcaaDoorB
import Derived.Test.YtbjgfcempfpfcaaDoorR
import Derived.Deep.Cut
namespace Go.Proofs.YtbjgfcempfpfcaaDoor
open Go.RowKit

/-- The nearer one behind key. -/
def ownS (key at_ b : Int) : Int := if far key b < far key at_ then place b else at_
/-- The owner of a key. -/
def ownL (key : Int) (l : List Int) : Int := l.foldl (ownS key) (place (nth l 0))
theorem far_place_eq (a b : Int) : far a (place b) = far a b := by unfold far place; omega
theorem ownS_self (key a : Int) : ownS key (place a) a = place a := by unfold ownS; rw [far_place_eq]; simp
/-- .. behind the first k ones. -/
def ownT (key : Int) (l : List Int) (k : Nat) : Int := (l.take k).foldl (ownS key) (place (nth l 0))
theorem ownT_next (key : Int) {l : List Int} {k : Nat} (h : k < l.length) : ownT key l (k + 1) = ownS key (ownT key l k) (nth l k) := by
  rw [ownT, nth_eq h, List.take_succ_eq_append_getElem h, List.foldl_append]; rfl
theorem ownT_one (key : Int) {l : List Int} (h : 0 < l.length) : ownT key l 1 = place (nth l 0) := by
  have := ownT_next key h
  rw [show ownT key l 0 = place (nth l 0) from rfl, ownS_self] at this
  exact this
theorem ownT_all (key : Int) (l : List Int) : ownT key l l.length = ownL key l := by rw [ownT, List.take_length]; rfl
theorem ownS_yes {key a b : Int} (h : decide (far key b < far key a) = true) : ownS key a b = place b := if_pos (of_decide_eq_true h)
theorem ownS_no {key a b : Int} (h : decide (far key b < far key a) = false) : ownS key a b = a := if_neg (of_decide_eq_false h)
theorem ownL_nil (key : Int) : ownL key [] = place 0 := rfl

set_option maxRecDepth 100000 in
set_option maxHeartbeats 1000000 in
theorem r03_Owner (key : Int) (A : Option Addr) (c : Nat) (l : List Int) (w : World) (hs : Sl w A c l) :
    Calls Tryd.prog 26 #[.slice A l.length c, .int .i64 key] w fun e w' => e = .returned (.tuple #[.int .i64 (ownL key l), .bool (decide (0 < l.length))]) ∧ w = w' := by
  have hsm := hs.small
  have hcap := hs.cap
  rcases Nat.eq_zero_or_pos l.length with h0 | h0
  · have hl : l = [] := List.eq_nil_of_length_eq_zero h0
    subst hl
    go_enter Tryd.func26, Tryd.ntmps26
    go_wp2
    go_ret2
    exact ⟨rfl, rfl⟩
  · obtain ⟨b, off, rfl, hbl, hcell⟩ := hs.at_ h0
    have hc0 := hcell 0 h0
    rw [Nat.add_zero] at hc0
    have HC := Lib.hid hcell
    clear hcell
    go_enter Tryd.func26, Tryd.ntmps26
    go_wp2_with (go_at_call 44; refine (r03_Place _ _).mono ?_; rintro e w' ⟨rfl, rfl⟩)
    go_loopw [6, 7] (fun t6 t7 wr => ∃ k : Nat, k ≤ l.length ∧ t6 = .int .i64 (ownT key l k) ∧ t7 = .int .i64 k ∧ wr = w) (fun t6 t7 _ => l.length - (intOf t7).toNat)
    case atStart => exact ⟨0, Nat.zero_le _, rfl, rfl, rfl⟩
    case round =>
      obtain ⟨k, hk, rfl, rfl, rfl⟩ := hrel
      by_cases hlt : k < l.length
      · have hc1 := HC.out k hlt
        cases hd : decide (far key (nth l k) < far key (ownT key l k)) with
        | true =>
          have HD := Lib.hid (ownS_yes hd)
          go_wp2_with (first | (go_at_call 30; refine (r03_Far _ _ _).mono ?_; rintro e w' ⟨rfl, rfl⟩) | (go_at_call 44; refine (r03_Place _ _).mono ?_; rintro e w' ⟨rfl, rfl⟩))
          go_roundw
          case rel => exact ⟨k + 1, by omega, by rw [ownT_next key hlt, HD.out], by go_num, by simp⟩
          case measure => simp [intOf]; omega
        | false =>
          have HD := Lib.hid (ownS_no hd)
          go_wp2_with (first | (go_at_call 30; refine (r03_Far _ _ _).mono ?_; rintro e w' ⟨rfl, rfl⟩) | (go_at_call 44; refine (r03_Place _ _).mono ?_; rintro e w' ⟨rfl, rfl⟩))
          go_roundw
          case rel => exact ⟨k + 1, by omega, by rw [ownT_next key hlt, HD.out], by go_num, by simp⟩
          case measure => simp [intOf]; omega
      · obtain rfl : k = l.length := by omega
        rw [ownT_all]
        go_wp2
        go_ret2
        exact ⟨by simp [h0], rfl⟩

/-- What holds where arc.Owner comes round. -/
def OJ (key : Int) (l : List Int) (b off c k : Nat) (a : Act) : Prop := ∃ t2 t3 t5 t6 t7 t8 t9 t10 t11 t12 t13 t14 t15 t16 t17 t18 t19 t20 t21 t22 t23 t24 t25 t26 t27 t28 t29 t30 t31 : Value, a = { tmps := #[.slice (some ⟨b, off + k, none⟩) (l.length - k) (c - k), .int .i64 key, t2, t3, .int .i64 (ownT key l (k + 1)), t5, t6, t7, t8, t9, t10, t11, t12, t13, t14, t15, t16, t17, t18, t19, t20, t21, t22, t23, t24, t25, t26, t27, t28, t29, t30, t31], defers := [] }
def sliceLen : Value → Nat
  | .slice _ n _ => n
  | _ => 0

set_option maxRecDepth 100000 in
set_option maxHeartbeats 1000000 in
theorem arc_Owner (key : Int) (A : Option Addr) (c : Nat) (l : List Int) (w : World) (hs : Sl w A c l) :
    Calls Tryd.prog 60 #[.slice A l.length c, .int .i64 key] w fun e w' => e = .returned (.tuple #[.int .i64 (if 0 < l.length then ownL key l else 0), .bool (decide (0 < l.length))]) ∧ w = w' := by
  have hsm := hs.small
  have hcap := hs.cap
  rcases Nat.eq_zero_or_pos l.length with h0 | h0
  · have hl : l = [] := List.eq_nil_of_length_eq_zero h0
    subst hl
    refine calls_of_wp_marks Tryd.func60 rfl ?_
    simp only [Tryd.ntmps60, List.size_toArray, List.length_cons, List.length_nil, Nat.reduceAdd, Nat.reduceSub, Array.replicate_succ, Array.replicate_zero, List.push_toArray, List.append_toArray, List.nil_append, List.cons_append]
    go_upto_region 1 with (fail)
    refine wp_scope_jumps (rest := ?rest) 0 (fun _ _ => False) (fun _ _ => 0) ?hf ?first ?pass
    case hf => exact rfl
    case pass => rintro _ _ ⟨⟩
    case first =>
      go_wp2
      show bodyPostM Fence.wide 0 Tryd.prog Tryd.f60 _ .ret _ _
      refine leave_plain (fn := Tryd.f60) (results_tmp2 (fn := Tryd.f60) (t := 4) (u := 5) rfl _ _ _) ?_
      exact ⟨rfl, rfl⟩
  · obtain ⟨b, off, rfl, hbl, hcell⟩ := hs.at_ h0
    have hc0 := hcell 0 h0
    rw [Nat.add_zero] at hc0
    have HC := Lib.hid hcell
    clear hcell
    refine calls_of_wp_marks Tryd.func60 rfl ?_
    simp only [Tryd.ntmps60, List.size_toArray, List.length_cons, List.length_nil, Nat.reduceAdd, Nat.reduceSub, Array.replicate_succ, Array.replicate_zero, List.push_toArray, List.append_toArray, List.nil_append, List.cons_append]
    go_upto_region 1 with (fail)
    refine wp_scope_jumps (rest := ?rest) 0 (fun a wr => wr = w ∧ ∃ k, k < l.length ∧ OJ key l b off c k a) (fun a _ => sliceLen (a.tmps.getD 0 undef)) ?hf ?first ?pass
    case hf => exact rfl
    case pass =>
      rintro a wr ⟨rfl, k, hk, t2, t3, t5, t6, t7, t8, t9, t10, t11, t12, t13, t14, t15, t16, t17, t18, t19, t20, t21, t22, t23, t24, t25, t26, t27, t28, t29, t30, t31, rfl⟩
      refine wp_seq (wp_skip ?_)
      by_cases hlt : k + 1 < l.length
      · have hc1 := HC.out (k + 1) hlt
        rw [← Nat.add_assoc] at hc1
        have hcc : ¬ c - k = 1 := by omega
        have hll : 0 < l.length - k - 1 := by omega
        cases hd : decide (far key (nth l (k + 1)) < far key (ownT key l (k + 1))) with
        | true =>
          have HD := Lib.hid ((ownT_next key hlt).trans (ownS_yes hd))
          go_wp2_with (first | (go_at_call 79; refine (arc_Far _ _ _).mono ?_; rintro e w' ⟨rfl, rfl⟩) | (go_at_call 77; refine (arc_Place _ _).mono ?_; rintro e w' ⟨rfl, rfl⟩) | (refine wp_goto ?_))
          exact ⟨rfl, ⟨rfl, k + 1, hlt, _, _, _, _, _, _, _, _, _, _, _, _, _, _, _, _, _, _, _, _, _, _, _, _, _, _, _, _, _, by rw [HD.out]; try rfl⟩, by simp [sliceLen]; omega⟩
        | false =>
          have HD := Lib.hid ((ownT_next key hlt).trans (ownS_no hd))
          go_wp2_with (first | (go_at_call 79; refine (arc_Far _ _ _).mono ?_; rintro e w' ⟨rfl, rfl⟩) | (go_at_call 77; refine (arc_Place _ _).mono ?_; rintro e w' ⟨rfl, rfl⟩) | (refine wp_goto ?_))
          exact ⟨rfl, ⟨rfl, k + 1, hlt, _, _, _, _, _, _, _, _, _, _, _, _, _, _, _, _, _, _, _, _, _, _, _, _, _, _, _, _, _, by rw [HD.out]; try rfl⟩, by simp [sliceLen]; omega⟩
      · obtain rfl : k = l.length - 1 := by omega
        have hll : ¬ 0 < l.length - (l.length - 1) - 1 := by omega
        go_wp2_with (first | (go_at_call 79; refine (arc_Far _ _ _).mono ?_; rintro e w' ⟨rfl, rfl⟩) | (go_at_call 77; refine (arc_Place _ _).mono ?_; rintro e w' ⟨rfl, rfl⟩) | (refine wp_goto ?_))
        all_goals
          show bodyPostM Fence.wide 0 Tryd.prog Tryd.f60 _ .ret _ _
          refine leave_plain (fn := Tryd.f60) (results_tmp2 (fn := Tryd.f60) (t := 4) (u := 5) rfl _ _ _) ?_
          refine ⟨?_, rfl⟩
          rw [if_pos h0, ← ownT_all, decide_eq_true h0]
          have e : l.length - 1 + 1 = l.length := by omega
          rw [e]
          rfl
    case first =>
      have h1 := ownT_one key h0
      by_cases hlt : 1 < l.length
      · have hc1 := HC.out 1 hlt
        have hcc : ¬ c = 1 := by omega
        have hll : 0 < l.length - 1 := by omega
        cases hd : decide (far key (nth l 1) < far key (ownT key l 1)) with
        | true =>
          have HD := Lib.hid ((ownT_next key hlt).trans (ownS_yes hd))
          rw [h1] at hd
          clear h1
          go_wp2_with (first | (go_at_call 79; refine (arc_Far _ _ _).mono ?_; rintro e w' ⟨rfl, rfl⟩) | (go_at_call 77; refine (arc_Place _ _).mono ?_; rintro e w' ⟨rfl, rfl⟩) | (refine wp_label ?_) | (refine wp_goto ?_))
          exact ⟨rfl, rfl, 1, hlt, _, _, _, _, _, _, _, _, _, _, _, _, _, _, _, _, _, _, _, _, _, _, _, _, _, _, _, _, _, by rw [HD.out]; try rfl⟩
        | false =>
          have HD := Lib.hid ((ownT_next key hlt).trans (ownS_no hd))
          rw [h1] at hd HD
          clear h1
          go_wp2_with (first | (go_at_call 79; refine (arc_Far _ _ _).mono ?_; rintro e w' ⟨rfl, rfl⟩) | (go_at_call 77; refine (arc_Place _ _).mono ?_; rintro e w' ⟨rfl, rfl⟩) | (refine wp_label ?_) | (refine wp_goto ?_))
          exact ⟨rfl, rfl, 1, hlt, _, _, _, _, _, _, _, _, _, _, _, _, _, _, _, _, _, _, _, _, _, _, _, _, _, _, _, _, _, by rw [HD.out]; try rfl⟩
      · have hl1 : l.length = 1 := by omega
        have hll : ¬ 0 < l.length - 1 := by omega
        have H1 := Lib.hid h1
        clear h1
        go_wp2_with (first | (go_at_call 79; refine (arc_Far _ _ _).mono ?_; rintro e w' ⟨rfl, rfl⟩) | (go_at_call 77; refine (arc_Place _ _).mono ?_; rintro e w' ⟨rfl, rfl⟩) | (refine wp_label ?_) | (refine wp_goto ?_))
        all_goals
          show bodyPostM Fence.wide 0 Tryd.prog Tryd.f60 _ .ret _ _
          refine leave_plain (fn := Tryd.f60) (results_tmp2 (fn := Tryd.f60) (t := 4) (u := 5) rfl _ _ _) ?_
          refine ⟨?_, rfl⟩
          rw [if_pos h0, ← ownT_all, decide_eq_true h0, hl1, H1.out]
          rfl

/-- Where a finger begins. -/
def startF (a i : Int) : Int := if 0 ≤ i ∧ i < 16 then place (a + 2 ^ i.toNat) else place a
/-- The steps of fingers lie where they are laid. -/
def Steps (w : World) : Prop := 0 < w.heap.size ∧ ∀ k, k < 16 → w.cell? ⟨0, k, none⟩ = some (.int .i64 (2 ^ k))
theorem Steps.below {w w' : World} (h : Steps w) (hb : Below w.heap.size w w') : Steps w' := ⟨Nat.lt_of_lt_of_le h.1 hb.size, fun k hk => (hb.cell (p := ⟨0, k, none⟩) h.1).trans (h.2 k hk)⟩
theorem startF_low {a i : Int} (h : decide (i < 0) = true) : startF a i = place a := if_neg fun h1 => by simp at h; omega
theorem startF_high {a i : Int} (h : decide (16 ≤ i) = true) : startF a i = place a := if_neg fun h1 => by simp at h; omega
theorem startF_mid {a : Int} {k : Nat} (h : k < 16) : startF a k = place (a + 2 ^ k) := if_pos ⟨by omega, by omega⟩
theorem place_wrap (a : Int) : place (wrap64 a) = place a := by unfold place wrap64; omega

set_option maxRecDepth 100000 in
set_option maxHeartbeats 1000000 in
theorem arc_Start (a i : Int) (w : World) (hs : Steps w) :
    Calls Tryd.prog 50 #[.int .i64 a, .int .i64 i] w fun e w' => e = .returned (.int .i64 (startF a i)) ∧ w = w' := by
  cases h1 : decide (i < 0) with
  | true =>
    rw [startF_low h1]
    go_enter Tryd.func50, Tryd.ntmps50
    go_wp2_with (go_at_call 77; refine (arc_Place _ _).mono ?_; rintro e w' ⟨rfl, rfl⟩)
    go_ret
    exact ⟨rfl, rfl⟩
  | false =>
    cases h2 : decide (16 ≤ i) with
    | true =>
      rw [startF_high h2]
      go_enter Tryd.func50, Tryd.ntmps50
      go_wp2_with (go_at_call 77; refine (arc_Place _ _).mono ?_; rintro e w' ⟨rfl, rfl⟩)
      go_ret
      exact ⟨rfl, rfl⟩
    | false =>
      obtain ⟨k, rfl⟩ : ∃ k : Nat, i = k := ⟨i.toNat, by simp at h1; omega⟩
      have hk : k < 16 := by simp at h2; omega
      rw [startF_mid hk]
      have hc := hs.2 k hk
      go_enter Tryd.func50, Tryd.ntmps50
      go_wp2_with (go_at_call 77; refine (arc_Place _ _).mono ?_; rintro e w' ⟨rfl, rfl⟩)
      go_ret
      exact ⟨ret_int (place_wrap _), rfl⟩

theorem two_pow_small {k : Nat} (h : k ≤ 16) : (2 : Int) ^ k ≤ 65536 := by
  have : k = 0 ∨ k = 1 ∨ k = 2 ∨ k = 3 ∨ k = 4 ∨ k = 5 ∨ k = 6 ∨ k = 7 ∨ k = 8 ∨ k = 9 ∨ k = 10 ∨ k = 11 ∨ k = 12 ∨ k = 13 ∨ k = 14 ∨ k = 15 ∨ k = 16 := by omega
  rcases this with rfl | rfl | rfl | rfl | rfl | rfl | rfl | rfl | rfl | rfl | rfl | rfl | rfl | rfl | rfl | rfl | rfl <;> decide
theorem two_pow_pos (k : Nat) : (0 : Int) < 2 ^ k := Int.pow_pos (by decide)

set_option maxRecDepth 100000 in
set_option maxHeartbeats 1000000 in
theorem r03_Start (a i : Int) (w : World) :
    Calls Tryd.prog 29 #[.int .i64 a, .int .i64 i] w fun e w' => e = .returned (.int .i64 (startF a i)) ∧ w = w' := by
  cases h1 : decide (i < 0) with
  | true =>
    rw [startF_low h1]
    go_enter Tryd.func29, Tryd.ntmps29
    go_wp2_with (go_at_call 44; refine (r03_Place _ _).mono ?_; rintro e w' ⟨rfl, rfl⟩)
    go_ret
    exact ⟨rfl, rfl⟩
  | false =>
    cases h2 : decide (16 ≤ i) with
    | true =>
      rw [startF_high h2]
      go_enter Tryd.func29, Tryd.ntmps29
      go_wp2_with (go_at_call 44; refine (r03_Place _ _).mono ?_; rintro e w' ⟨rfl, rfl⟩)
      go_ret
      exact ⟨rfl, rfl⟩
    | false =>
      obtain ⟨n, rfl⟩ : ∃ k : Nat, i = k := ⟨i.toNat, by simp at h1; omega⟩
      have hk : n < 16 := by simp at h2; omega
      rw [startF_mid hk]
      go_enter Tryd.func29, Tryd.ntmps29
      go_wp2
      go_loopw [5, 6] (fun t5 t6 wr => ∃ k : Nat, k ≤ n ∧ t5 = .int .i64 (2 ^ k) ∧ t6 = .int .i64 k ∧ wr = w) (fun t5 t6 _ => n - (intOf t6).toNat)
      case atStart => exact ⟨0, Nat.zero_le _, rfl, rfl, rfl⟩
      case round =>
        obtain ⟨k, hkn, rfl, rfl, rfl⟩ := hrel
        by_cases hlt : k < n
        · have z1 := two_pow_small (k := k) (by omega)
          have z2 := two_pow_pos k
          have e0 : (2 : Int) ^ (k + 1) = 2 * 2 ^ k := by rw [Int.pow_succ]; omega
          have E1 := Lib.hid e0
          clear e0
          go_wp2
          go_roundw
          case rel => exact ⟨k + 1, by omega, by rw [E1.out], by go_num, by simp⟩
          case measure => simp [intOf]; omega
        · obtain rfl : k = n := by omega
          go_wp2_with (go_at_call 44; refine (r03_Place _ _).mono ?_; rintro e w' ⟨rfl, rfl⟩)
          go_ret
          refine ⟨ret_int ?_, rfl⟩
          rw [place_wrap]; unfold place; omega
end Go.Proofs.YtbjgfcempfpfcaaDoor
