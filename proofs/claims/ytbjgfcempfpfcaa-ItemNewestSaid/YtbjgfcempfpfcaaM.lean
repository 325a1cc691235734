/- Plain words over numbers and lists (no Go): places on the circle, how far they are, who lies between. -/
import Derived.Below
namespace Go.Proofs.Ytbjgfcempfpfcaa

def place (n : Int) : Int := n % 65536
def isPl (n : Int) : Bool := decide (0 ≤ n) && decide (n < 65536)
def far (a b : Int) : Int := (b - a) % 65536
def inn (a x b : Int) : Bool := far a x != 0 && (decide (far a x < far a b) || far a b == 0)
def upTo (a x b : Int) : Bool := inn a x b || far x b == 0

theorem place_nonneg (n : Int) : 0 ≤ place n := by unfold place; omega
theorem place_lt (n : Int) : place n < 65536 := by unfold place; omega
theorem far_nonneg (a b : Int) : 0 ≤ far a b := by unfold far; omega
theorem far_lt (a b : Int) : far a b < 65536 := by unfold far; omega
theorem isPl_iff (n : Int) : isPl n = true ↔ 0 ≤ n ∧ n < 65536 := by simp [isPl]
theorem isPl_place (n : Int) : (n == place n) = isPl n := by
  rw [Bool.eq_iff_iff, beq_iff_eq, isPl_iff]; unfold place; omega

theorem place_eq_iff (a b : Int) : (place a == place b) = (far a b == 0) := by
  rw [Bool.eq_iff_iff, beq_iff_eq, beq_iff_eq]; unfold place far; omega
theorem place_ne_iff (a b : Int) : (place a != place b) = (far a b != 0) := by
  simp only [bne, place_eq_iff]
theorem far_zero_comm (a b : Int) : (far a b == 0) = (far b a == 0) := by
  rw [Bool.eq_iff_iff, beq_iff_eq, beq_iff_eq]; unfold far; omega
theorem in_end1 {a x b : Int} (h : (place a == place b) = true) : (place x != place a) = inn a x b := by
  have h2 : far a b = 0 := by rw [place_eq_iff] at h; simpa using h
  rw [place_ne_iff, bne, far_zero_comm, ← bne]
  simp [inn, h2]
theorem in_end2 {a x b : Int} (h : (place a == place b) = false) (hx : 0 < far a x) : decide (far a x < far a b) = inn a x b := by
  have h2 : (far a b == 0) = false := by rw [place_eq_iff] at h; exact h
  have h3 : far a x ≠ 0 := by omega
  simp [inn, h2, h3]
theorem in_end3 {a x b : Int} (hx : far a x ≤ 0) : false = inn a x b := by
  have h3 : far a x = 0 := by have := far_nonneg a x; omega
  simp [inn, h3]
theorem up_end1 {a x b : Int} (h : far x b = 0) : true = upTo a x b := by simp [upTo, h]
theorem up_end2 {a x b : Int} : (far x b == 0 || inn a x b) = upTo a x b := by rw [upTo, Bool.or_comm]
theorem up_end3 {a x b : Int} (h : inn a x b = true) : true = upTo a x b := by simp [upTo, h]
theorem up_end4 {a x b : Int} (h : ¬ inn a x b = true) : (place x == place b) = upTo a x b := by simp [upTo, h, place_eq_iff]

/-- All of P up to n. -/
def allTo (n : Nat) (P : Nat → Bool) : Bool := (List.range n).all P
theorem allTo_zero (P : Nat → Bool) : allTo 0 P = true := rfl
theorem allTo_succ (n : Nat) (P : Nat → Bool) : allTo (n + 1) P = (allTo n P && P n) := by simp [allTo, List.range_succ]
theorem allTo_iff (n : Nat) (P : Nat → Bool) : allTo n P = true ↔ ∀ k, k < n → P k = true := by simp [allTo]
theorem allTo_false {n k : Nat} {P : Nat → Bool} (hk : k < n) (h : P k = false) : allTo n P = false := by
  rw [Bool.eq_false_iff]; intro h1; rw [(allTo_iff n P).1 h1 k hk] at h; cases h
theorem allTo_next {n : Nat} {P : Nat → Bool} (h : allTo n P = true) (hn : P n = true) : allTo (n + 1) P = true := by rw [allTo_succ, h, hn]; rfl

/-- The k-th one of a row. -/
def nth (l : List Int) (k : Nat) : Int := l.getD k 0
theorem nth_eq {l : List Int} {k : Nat} (h : k < l.length) : nth l k = l[k] := by simp [nth, h]

/-- The place ahead of the k-th one of a row; of the first one: x. -/
def before (x : Int) (l : List Int) (k : Nat) : Int := if k = 0 then x else nth l (k - 1)
/-- Does the k-th one of a row stand behind the one ahead of it, from x on? -/
def okAt (x : Int) (l : List Int) (k : Nat) : Bool := isPl (nth l k) && decide (far x (before x l k) < far x (nth l k))
/-- A list of x. -/
def rightL (x : Int) (l : List Int) : Bool := allTo l.length (okAt x l) && decide (l.length ≤ 3)

theorem isPl_end0 {a : Int} (h : 0 ≤ a) : decide (a < 65536) = isPl a := by simp [isPl, h]
theorem isPl_end1 {a : Int} (h : a < 0) : false = isPl a := by simp [isPl]; omega
theorem far_self (x : Int) : far x x = 0 := by unfold far; omega
theorem far_place {x y : Int} (h : isPl y = true) : (far x y = 0) ↔ y = place x := by
  rw [isPl_iff] at h; unfold far place; omega
theorem ok_end1 {x : Int} {l : List Int} {k : Nat} (h : isPl (nth l k) = false) : okAt x l k = false := by simp [okAt, h]
theorem ok_end2 {x : Int} {l : List Int} {k : Nat} (h : isPl (nth l k) = true) (he : (nth l k == place x) = true) : okAt x l k = false := by
  have h1 : far x (nth l k) = 0 := (far_place h).2 (by simpa using he)
  have h2 := far_nonneg x (before x l k)
  simp only [okAt, h, h1, Bool.true_and, decide_eq_false_iff_not]; omega
theorem ok_end3 {x : Int} {l : List Int} (h : isPl (nth l 0) = true) (he : (nth l 0 == place x) = false) : okAt x l 0 = true := by
  have h1 : far x (nth l 0) ≠ 0 := fun h2 => by
    have h3 := (far_place h).1 h2
    rw [beq_eq_false_iff_ne] at he; exact he h3
  have h4 := far_nonneg x (nth l 0)
  simp only [okAt, h, before, if_true, far_self, Bool.true_and, decide_eq_true_eq]; omega
theorem ok_end4 {x : Int} {l : List Int} {k : Nat} (h : isPl (nth l k) = true) (hk : 0 < k) : okAt x l k = decide (far x (nth l (k - 1)) < far x (nth l k)) := by
  simp [okAt, h, before, show k ≠ 0 by omega]

/-- What has come when k rounds are over. -/
def upto {α : Type} (f : Nat → α) (k : Nat) : List α := (List.range k).map f
theorem upto_zero {α : Type} (f : Nat → α) : upto f 0 = [] := rfl
theorem upto_succ {α : Type} (f : Nat → α) (k : Nat) : upto f (k + 1) = upto f k ++ [f k] := by simp [upto, List.range_succ]
theorem upto_length {α : Type} (f : Nat → α) (k : Nat) : (upto f k).length = k := by simp [upto]
theorem upto_split {α : Type} (f : Nat → α) {k n : Nat} (h : k < n) : ∃ rest, upto f n = upto f k ++ f k :: rest := by
  induction n with
  | zero => omega
  | succ n ih =>
    rw [upto_succ]
    by_cases hk : k = n
    · subst hk; exact ⟨[], rfl⟩
    · obtain ⟨rest, e⟩ := ih (by omega)
      exact ⟨rest ++ [f n], by rw [e]; simp⟩
theorem upto_at {α : Type} {f : Nat → α} {n : Nat} {pre rest : List α} {x : α} (h : upto f n = pre ++ x :: rest) : pre.length < n ∧ pre = upto f pre.length ∧ x = f pre.length := by
  have hl : n = pre.length + (rest.length + 1) := by have := congrArg List.length h; simpa [upto_length] using this
  have hk : pre.length < n := by omega
  obtain ⟨rest', e⟩ := upto_split f hk
  rw [e] at h
  obtain ⟨h1, h2⟩ := List.append_inj h (upto_length _ _)
  injection h2 with h3 _
  exact ⟨hk, h1.symm, h3.symm⟩
/-- The sides of a row: each one behind the one ahead of it. -/
def side (x : Int) (l : List Int) (k : Nat) : Int × Int := (before x l k, nth l k)
theorem before_succ (x : Int) (l : List Int) (k : Nat) : before x l (k + 1) = nth l k := by simp [before]
theorem before_zero (x : Int) (l : List Int) : before x l 0 = x := by simp [before]

/-- The first place of v in a row, or -1. -/
def idx (v : Int) (l : List Int) : Int := if v ∈ l then (l.idxOf v : Int) else -1
theorem nth_mem {l : List Int} {k : Nat} (h : k < l.length) : nth l k ∈ l := by rw [nth_eq h]; exact List.getElem_mem h
theorem mem_nth {l : List Int} {v : Int} (h : v ∈ l) : ∃ k, k < l.length ∧ nth l k = v := by
  obtain ⟨k, hk, e⟩ := List.getElem_of_mem h
  exact ⟨k, hk, by rw [nth_eq hk, e]⟩
theorem idx_hit {v : Int} {l : List Int} {k : Nat} (hk : k < l.length) (hv : v = nth l k) (hb : ∀ j, j < k → nth l j ≠ v) : idx v l = k := by
  have hm : v ∈ l := by rw [hv]; exact nth_mem hk
  rw [idx, if_pos hm]
  have h1 : l.idxOf v < l.length := List.idxOf_lt_length_of_mem hm
  have h2 : nth l (l.idxOf v) = v := by rw [nth_eq h1]; exact List.getElem_idxOf h1
  have h3 : ¬ l.idxOf v < k := fun h => hb _ h h2
  have h4 : ¬ k < l.idxOf v := fun h => by
    have := List.not_of_lt_findIdx (xs := l) (p := (· == v)) h
    rw [nth_eq hk] at hv
    simp [← hv] at this
  have : l.idxOf v = k := by omega
  rw [this]
theorem idx_miss {v : Int} {l : List Int} (hb : ∀ j, j < l.length → nth l j ≠ v) : idx v l = -1 := by
  rw [idx, if_neg]
  intro h
  obtain ⟨k, hk, e⟩ := mem_nth h
  exact hb k hk e
theorem idx_mem (v : Int) (l : List Int) : decide (0 ≤ idx v l) = decide (v ∈ l) := by
  unfold idx
  by_cases h : v ∈ l <;> simp [h]
theorem eq_of_nth {a b : List Int} (hl : a.length = b.length) (h : ∀ k, k < a.length → nth a k = nth b k) : a = b := by
  apply List.ext_getElem hl
  intro i h1 h2
  have := h i h1
  rwa [nth_eq h1, nth_eq h2] at this

/-- A view. -/
structure View where
  id : Int
  base : List Int
  list : List Int
  pred : Int
  f : Nat → Int

/-- -1, or a place that is not id. -/
def other (id n : Int) : Bool := n == -1 || (isPl n && n != id)
/-- Is the k-th one of the base a place, and farther than the one ahead of it? -/
def baseOk (l : List Int) (k : Nat) : Bool := isPl (nth l k) && (k == 0 || decide (nth l (k - 1) < nth l k))
/-- The conditions on a view that are asked ahead of its rows. -/
def headOk (x : View) : Bool := isPl x.id && decide (2 ≤ x.base.length) && decide (x.base.length ≤ 4) && rightL x.id x.list && other x.id x.pred
/-- A view that may be. -/
def rightV (x : View) : Bool := headOk x && allTo x.base.length (baseOk x.base) && allTo 16 (fun k => other x.id (x.f k))

theorem base_end1 {l : List Int} {k : Nat} (h : isPl (nth l k) = false) : baseOk l k = false := by simp [baseOk, h]
theorem base_end2 {l : List Int} (h : isPl (nth l 0) = true) : baseOk l 0 = true := by simp [baseOk, h]
theorem base_end3 {l : List Int} {k : Nat} (h : isPl (nth l k) = true) (hk : 0 < k) : baseOk l k = !decide (nth l k ≤ nth l (k - 1)) := by
  have : (k == 0) = false := by simp; omega
  simp only [baseOk, h, this, Bool.true_and, Bool.false_or]
  rw [Bool.eq_iff_iff]; simp
theorem right_of {x : View} (h0 : headOk x = true) (h1 : allTo x.base.length (baseOk x.base) = true) (h2 : allTo 16 (fun k => other x.id (x.f k)) = true) : rightV x = true := by
  simp [rightV, h0, h1, h2]
theorem not_right1 {x : View} {k : Nat} (hk : k < x.base.length) (h : baseOk x.base k = false) : rightV x = false := by
  simp [rightV, allTo_false hk h]
theorem not_right2 {x : View} {k : Nat} (hk : k < 16) (h : other x.id (x.f k) = false) : rightV x = false := by
  simp [rightV, allTo_false (P := fun k => other x.id (x.f k)) hk h]

/-- What is in an int of 64 bits. -/
def I64 (n : Int) : Prop := -9223372036854775808 ≤ n ∧ n ≤ 9223372036854775807

end Go.Proofs.Ytbjgfcempfpfcaa
