/- Items by value and in boxes; the small contracts of item, msg and cmp. -/
import Derived.Test.YtbjgfcempfpfcaaG
import Derived.Laws.StructEq
import Derived.Laws.Small
namespace Go.Proofs.Ytbjgfcempfpfcaa
open Go.RowKit Go.Shelf

structure It where
  key : ByteArray
  value : Int
  version : Int
  gone : Bool
def It.cells (x : It) : Array Value := #[.string x.key, .int .i64 x.value, .int .i64 x.version, .bool x.gone]
def It.v (x : It) : Value := .agg x.cells
def It.same (a b : It) : Bool := a.key.toList == b.key.toList && (a.value == b.value && (a.version == b.version && a.gone == b.gone))
def It.zero : It := ⟨⟨#[]⟩, 0, 0, false⟩

set_option maxRecDepth 100000 in
@[go_sem] theorem eq_item (k1 k2 : ByteArray) (a b c d : Int) (g h : Bool) (w : World) : (Op.equalIn 10000 40 (.agg #[.string k1, .int .i64 a, .int .i64 b, .bool g]) (.agg #[.string k2, .int .i64 c, .int .i64 d, .bool h])).run Try.prog w = .ok (It.same ⟨k1, a, b, g⟩ ⟨k2, c, d, h⟩) w := by
  have u3 := Try.underlying3
  have u9 := Try.underlying9
  have u4 := Try.underlying4
  have a3 := Try.isAgg3
  have a9 := Try.isAgg9
  have a4 := Try.isAgg4
  have z3 := Try.sizeOf3
  have z9 := Try.sizeOf9
  have z4 := Try.sizeOf4
  have hS : Try.prog.underlying 40 = some (.struct (Try.prog.fieldsOf 40)) := by kernel_rfl
  have hp : Try.prog.stoodInHeld 40 = false := by kernel_rfl
  rw [show (10000 : Nat) = 9999 + 1 from rfl, run_equalIn_agg w 9999 40 _ _ hS hp]
  simp only [Program.fieldsOf, Try.underlying40]
  go_simp
  unfold It.same
  cases e1 : k1.toList == k2.toList <;> cases e2 : a == c <;> cases e3 : b == d <;> cases e4 : g == h <;> simp_all

theorem one_more {w : World} (o : Obj) : Below w.heap.size w (w.alloc o) := (Below.refl _ w).alloc (Nat.le_refl _) o

/-- gone. -/
def It.goneI (x : It) : Int := if x.gone then 1 else 0
theorem item_gone (x : It) (w : World) : Calls Try.prog 71 #[x.v] w fun e w' => e = .returned (.int .i64 x.goneI) ∧ Below w.heap.size w w' := by
  unfold It.v It.cells
  go_enter Try.func71, Try.ntmps71
  cases hg : x.gone with
  | true =>
    go_wp2
    go_ret
    exact ⟨by simp [It.goneI, hg], one_more _⟩
  | false =>
    go_wp2
    go_ret
    exact ⟨by simp [It.goneI, hg], one_more _⟩

/-- Which pairs may be. -/
def keyOk (k : ByteArray) : Bool := decide ((1 : Int) ≤ (k.size : Int)) && decide ((k.size : Int) ≤ 20)
def within (n : Int) : Bool := decide ((0 : Int) ≤ n) && decide (n ≤ 1048576)
def pairI (x : It) : Bool := keyOk x.key && (within x.value && within x.version)
set_option maxRecDepth 100000 in
theorem r06_Pair (x : It) (w : World) : Calls Try.prog 37 #[x.v] w fun e w' => e = .returned (.bool (pairI x)) ∧ Below w.heap.size w w' := by
  unfold It.v It.cells pairI keyOk within
  go_enter Try.func37, Try.ntmps37
  cases e1 : decide ((1 : Int) ≤ (x.key.size : Int)) with
  | false =>
    go_wp2
    go_ret
    exact ⟨by simp, one_more _⟩
  | true =>
    cases e2 : decide ((x.key.size : Int) ≤ 20) with
    | false =>
      go_wp2
      go_ret
      exact ⟨by simp, one_more _⟩
    | true =>
      cases e3 : decide ((0 : Int) ≤ x.value) with
      | false =>
        go_wp2
        go_ret
        exact ⟨by simp, one_more _⟩
      | true =>
        cases e4 : decide (x.value ≤ 1048576) with
        | false =>
          go_wp2
          go_ret
          exact ⟨by simp, one_more _⟩
        | true =>
          cases e5 : decide ((0 : Int) ≤ x.version) with
          | false =>
            go_wp2
            go_ret
            exact ⟨by simp, one_more _⟩
          | true =>
            cases e6 : decide (x.version ≤ 1048576) with
            | false =>
              go_wp2
              go_ret
              exact ⟨by simp, one_more _⟩
            | true =>
              go_wp2
              go_ret
              exact ⟨by simp, one_more _⟩

theorem key_nil {k : ByteArray} (h : decide ((1 : Int) ≤ (k.size : Int)) = false) : k = ⟨#[]⟩ := by
  obtain ⟨a⟩ := k
  have : a.size = 0 := by have := of_decide_eq_false h; simp only [ByteArray.size] at this; omega
  rw [Array.eq_empty_of_size_eq_zero this]
theorem key_some {k : ByteArray} (h : decide ((1 : Int) ≤ (k.size : Int)) = true) : (k.toList == []) = false := by
  have := of_decide_eq_true h
  refine beq_eq_false_iff_ne.2 fun e => ?_
  have e2 : k.toList.length = k.size := by simp [ByteArray.toList_eq]
  rw [e] at e2; simp at e2; omega
theorem msg_key (k : ByteArray) (w : World) : Calls Try.prog 108 #[.string k] w fun e w' => e = .returned (.bool (keyOk k)) ∧ w = w' := by
  unfold keyOk
  go_enter Try.func108, Try.ntmps108
  cases e1 : decide ((1 : Int) ≤ (k.size : Int)) with
  | false =>
    obtain rfl := key_nil e1
    go_wp2
    go_ret
    exact ⟨by simp, rfl⟩
  | true =>
    have e3 := key_some e1
    cases e2 : decide ((k.size : Int) ≤ 20) with
    | false =>
      go_wp2
      go_ret
      exact ⟨by simp, rfl⟩
    | true =>
      go_wp2
      go_ret
      exact ⟨by simp, rfl⟩
theorem msg_within (n : Int) (w : World) : Calls Try.prog 109 #[.int .i64 n] w fun e w' => e = .returned (.bool (within n)) ∧ w = w' := by
  unfold within
  go_enter Try.func109, Try.ntmps109
  cases e1 : decide ((0 : Int) ≤ n) with
  | false =>
    go_wp2
    go_ret
    exact ⟨by simp, rfl⟩
  | true =>
    cases e2 : decide (n ≤ 1048576) with
    | false =>
      go_wp2
      go_ret
      exact ⟨by simp, rfl⟩
    | true =>
      go_wp2
      go_ret
      exact ⟨by simp, rfl⟩
set_option maxRecDepth 100000 in
theorem msg_Pair (x : It) (w : World) : Calls Try.prog 76 #[x.v] w fun e w' => e = .returned (.bool (pairI x)) ∧ Below w.heap.size w w' := by
  unfold It.v It.cells pairI
  go_enter Try.func76, Try.ntmps76
  cases e1 : keyOk x.key with
  | false =>
    go_wp2_with (first | (go_at_call 108; refine (msg_key _ _).mono ?_; rintro e w' ⟨he, rfl⟩; rw [e1] at he; subst he))
    go_ret
    exact ⟨by simp, one_more _⟩
  | true =>
    cases e2 : within x.value with
    | false =>
      go_wp2_with (first | (go_at_call 108; refine (msg_key _ _).mono ?_; rintro e w' ⟨he, rfl⟩; rw [e1] at he; subst he) | (go_at_call 109; refine (msg_within _ _).mono ?_; rintro e w' ⟨he, rfl⟩; rw [e2] at he; subst he))
      go_ret
      exact ⟨by simp, one_more _⟩
    | true =>
      cases e3 : within x.version with
      | false =>
        go_wp2_with (first | (go_at_call 108; refine (msg_key _ _).mono ?_; rintro e w' ⟨he, rfl⟩; rw [e1] at he; subst he) | (go_at_call 109; refine (msg_within _ _).mono ?_; rintro e w' ⟨he, rfl⟩; (first | rw [e2] at he | rw [e3] at he); subst he))
        go_ret
        exact ⟨by simp, one_more _⟩
      | true =>
        go_wp2_with (first | (go_at_call 108; refine (msg_key _ _).mono ?_; rintro e w' ⟨he, rfl⟩; rw [e1] at he; subst he) | (go_at_call 109; refine (msg_within _ _).mono ?_; rintro e w' ⟨he, rfl⟩; (first | rw [e2] at he | rw [e3] at he); subst he))
        go_ret
        exact ⟨by simp, one_more _⟩

theorem cmp_isNaN (a : Int) (w : World) : Calls Try.prog 102 #[.int .i64 a] w fun e w' => e = .returned (.bool false) ∧ w = w' := by
  go_enter Try.func102, Try.ntmps102
  have hn : (a != a) = false := by simp
  go_wp2
  go_ret
  exact ⟨rfl, rfl⟩
def cmpInt (a b : Int) : Int := if a < b then -1 else if b < a then 1 else 0
theorem cmp_Compare (a b : Int) (w : World) : Calls Try.prog 70 #[.int .i64 a, .int .i64 b] w fun e w' => e = .returned (.int .i64 (cmpInt a b)) ∧ w = w' := by
  go_enter Try.func70, Try.ntmps70
  by_cases h1 : a < b
  · have hc := Lib.hid (show cmpInt a b = -1 by rw [cmpInt, if_pos h1])
    go_wp2_with (go_at_call 102; refine (cmp_isNaN _ _).mono ?_; rintro e w' ⟨rfl, rfl⟩)
    go_ret
    exact ⟨by rw [hc.out]; rfl, rfl⟩
  · by_cases h2 : b < a
    · have hc := Lib.hid (show cmpInt a b = 1 by rw [cmpInt, if_neg h1, if_pos h2])
      go_wp2_with (go_at_call 102; refine (cmp_isNaN _ _).mono ?_; rintro e w' ⟨rfl, rfl⟩)
      go_ret
      exact ⟨by rw [hc.out]; rfl, rfl⟩
    · have hc := Lib.hid (show cmpInt a b = 0 by rw [cmpInt, if_neg h1, if_neg h2])
      go_wp2_with (go_at_call 102; refine (cmp_isNaN _ _).mono ?_; rintro e w' ⟨rfl, rfl⟩)
      go_ret
      exact ⟨by rw [hc.out]; rfl, rfl⟩
def orI : List Int → Int
  | [] => 0
  | x :: l => if x ≠ 0 then x else orI l
theorem orI_drop {l : List Int} {k : Nat} (hk : k < l.length) : orI (l.drop k) = if nth l k ≠ 0 then nth l k else orI (l.drop (k + 1)) := by
  rw [List.drop_eq_getElem_cons hk]
  simp [orI, nth, hk]
set_option maxRecDepth 100000 in
theorem cmp_Or (A : Option Addr) (c : Nat) (l : List Int) (w : World) (hs : Sl w A c l) : Calls Try.prog 69 #[.slice A l.length c] w fun e w' => e = .returned (.int .i64 (orI l)) ∧ w = w' := by
  have hsm := hs.small
  have hcap := hs.cap
  go_enter Try.func69, Try.ntmps69
  go_wp2
  go_loopw [5, 8] (fun t5 t8 wr => ∃ k : Nat, k ≤ l.length ∧ t8 = .int .i64 k ∧ Hid (orI (l.drop k) = orI l) ∧ Hid (wr = w)) (fun t5 t8 _ => l.length - (intOf t8).toNat)
  case atStart => exact ⟨0, Nat.zero_le _, rfl, Lib.hid (by simp), Lib.hid rfl⟩
  case round =>
    obtain ⟨k, hk, rfl, hor, hw⟩ := hrel
    by_cases hlt : k < l.length
    · obtain ⟨b, off, rfl, hbl, hcell⟩ := hs.at_ (by omega)
      have hc0 : wr.cell? ⟨b, off + k, none⟩ = some (.int .i64 (nth l k)) := by rw [hw.out]; exact hcell k hlt
      cases e1 : (nth l k != 0) with
      | true =>
        go_wp2
        go_ret
        exact ⟨by show Ending.returned (.int .i64 (nth l k)) = _; rw [← hor.out, orI_drop hlt, if_pos (by simpa using e1)], hw.out.symm⟩
      | false =>
        go_wp2
        go_roundw
        · exact ⟨k + 1, by omega, by go_num, Lib.hid (by rw [← hor.out, orI_drop hlt, if_neg (by simpa using e1)]), hw⟩
        · simp [intOf]; omega
    · obtain rfl : k = l.length := by omega
      go_wp2
      go_ret
      exact ⟨by rw [← hor.out]; simp [orI], hw.out.symm⟩
end Go.Proofs.Ytbjgfcempfpfcaa
