/- The plain laws of the layer rect: what is asked of views that are told, of whose Pred is gone, of who owns. -/
import Derived.Test.YtbjgfcempfpfcaaDoorQ
namespace Go.Proofs.YtbjgfcempfpfcaaDoor
open Go.RowKit
theorem same_refl (x : View) : sameV x x = true := by simp [sameV, fEq]
theorem same_of {x y : View} (h : x = y) : sameV x y = true := by subst h; exact same_refl x
theorem withPred_back (x : View) (p q : Int) : (x.withPred p).withPred q = x.withPred q := rfl
theorem withPred_self (x : View) : x.withPred x.pred = x := rfl

theorem gone_right {x : View} (hr : rightV x = true) (d : Int) : rightV (goneV x d) = true := by
  unfold goneV; split
  · exact right_withPred hr (by simp [other])
  · exact hr
theorem gone_same (x : View) (d : Int) : (goneV x d).withPred x.pred = x := by
  unfold goneV; split <;> rfl
theorem gone_id (x : View) (d : Int) : (goneV x d).id = x.id := by
  unfold goneV; split <;> rfl
theorem gone_base (x : View) (d : Int) : (goneV x d).base = x.base := by
  unfold goneV; split <;> rfl
/-- Whose Pred has changed had the one that is gone, which is not of the base. -/
theorem gone_changed {x : View} {d : Int} (h : ((goneV x d).pred != x.pred) = true) : ((goneV x d).pred != -1) = false ∧ (x.pred != d) = false ∧ decide (d ∈ x.base) = false := by
  unfold goneV at h ⊢
  split at h
  · rename_i hc
    simp only [hc, if_true]
    simp only [Bool.and_eq_true, beq_iff_eq, Bool.not_eq_true'] at hc
    refine ⟨by simp [View.withPred], by simp [hc.2.1], hc.2.2⟩
  · simp at h
theorem gone_left {x : View} (hr : rightV x = true) {d : Int} (h : ((goneV x d).pred == d) = true) (hd : decide (0 ≤ d) = true) : decide (d ∈ x.base) = true := by
  unfold goneV at h
  split at h
  · simp [View.withPred] at h hd; omega
  · rename_i hc
    simp only [hr, Bool.true_and, Bool.and_eq_true, beq_iff_eq, Bool.not_eq_true', not_and, Bool.not_eq_false] at hc
    exact hc (by simpa using h)
theorem one_pred {x : View} (hr : rightV x = true) {n : Int} (hp : decide (0 ≤ x.pred) = false) (h0 : decide (n < 0) = false) (h1 : decide (65536 ≤ n) = false) (h2 : (n == x.id) = false) : (notifyV x [n]).pred = n := by
  have hp' : x.pred = -1 := by rcases right_pred hr with h | h <;> simp at hp <;> omega
  have hb : betterV x n = true := by
    simp at h0 h1 h2
    simp [betterV, hr, isPl, hp', h0, h1, h2]
  show (toldV x n).pred = n
  rw [told_yes hb]; rfl

theorem right_id {x : View} (hr : rightV x = true) : 0 ≤ x.id ∧ x.id < 65536 := by
  simp only [rightV, headOk, Bool.and_eq_true, isPl_iff] at hr
  exact hr.1.1.1.1.1.1
/-- The view that stands on the other side. -/
def faceV (x : View) (n : Int) : View := ⟨n, x.base, [], x.id, fun _ => -1⟩
theorem face_right {x : View} (hr : rightV x = true) {n : Int} (hn : isPl n = true) (hne : (n == x.id) = false) : rightV (faceV x n) = true := by
  have h0 := right_id hr
  simp only [rightV, headOk, Bool.and_eq_true] at hr ⊢
  simp at hne
  refine ⟨⟨⟨⟨⟨⟨hn, hr.1.1.1.1.1.2⟩, hr.1.1.1.1.2⟩, rfl⟩, ?_⟩, hr.1.2⟩, ?_⟩
  · simp [other, faceV, isPl_iff, h0]; right; exact fun h => hne h.symm
  · rw [allTo_iff]; intro k _; simp [other, faceV]
theorem inn_iff (a k b : Int) : inn a k b = true ↔ (k - a) % 65536 ≠ 0 ∧ ((k - a) % 65536 < (b - a) % 65536 ∨ (b - a) % 65536 = 0) := by
  simp only [inn, Bool.and_eq_true, Bool.or_eq_true, bne_iff_ne, ne_eq, decide_eq_true_eq, beq_iff_eq]; rfl
theorem upTo_iff (a k b : Int) : upTo a k b = true ↔ (k - a) % 65536 ≠ 0 ∧ ((k - a) % 65536 < (b - a) % 65536 ∨ (b - a) % 65536 = 0) ∨ (b - k) % 65536 = 0 := by
  rw [upTo, Bool.or_eq_true, inn_iff, beq_iff_eq]; rfl
theorem upTo_other {a b k : Int} (ha : 0 ≤ a ∧ a < 65536) (hb : 0 ≤ b ∧ b < 65536) (hne : a ≠ b) : upTo a k b ≠ upTo b k a := by
  intro h
  have h1 := Bool.eq_iff_iff.1 h
  rw [upTo_iff, upTo_iff] at h1
  omega
theorem face_owns {x : View} (hr : rightV x = true) {n : Int} (hn : isPl n = true) (hne : (n == x.id) = false) (k : Int) : (ownsV (x.withPred n) k == ownsV (faceV x n) k) = false := by
  have h0 := right_id hr
  have hn' := (isPl_iff n).1 hn
  have h1 : rightV (x.withPred n) = true := right_withPred hr (by simp at hne; simp [other, hn, hne])
  rw [beq_eq_false_iff_ne]
  have h2 : ownsV (x.withPred n) k = upTo n k x.id := by rw [ownsV, h1]; simp [View.withPred, hn'.1]
  have h3 : ownsV (faceV x n) k = upTo x.id k n := by rw [ownsV, face_right hr hn hne]; simp [faceV, h0.1]
  rw [h2, h3]
  exact upTo_other hn' h0 (by simpa using hne)
theorem told_owns {x : View} (hr : rightV x = true) {n : Int} (hn : isPl n = true) (hne : (n == x.id) = false) (k : Int) (hp : decide (x.pred < 0) = false) (hk : ownsV (notifyV x [n]) k = true) : ownsV x k = true := by
  have hn' := (isPl_iff n).1 hn
  have h0 := right_id hr
  change ownsV (toldV x n) k = true at hk
  cases hb : betterV x n with
  | false => rwa [told_no hb] at hk
  | true =>
    rw [told_yes hb] at hk
    have ho := right_other hr
    simp at hp hne
    simp only [betterV, Bool.and_eq_true, Bool.or_eq_true, beq_iff_eq] at hb
    have hb2 : inn x.pred n x.id = true := by
      rcases hb.2.2.2 with h | h
      · omega
      · exact h
    simp only [ownsV, Bool.and_eq_true, View.withPred, upTo_iff] at hk
    rw [inn_iff] at hb2
    simp only [other, Bool.or_eq_true, beq_iff_eq, Bool.and_eq_true, isPl_iff, bne_iff_ne, ne_eq] at ho
    simp only [ownsV, hr, Bool.true_and, Bool.and_eq_true, decide_eq_true_eq, upTo_iff]
    omega
theorem told_owns_id {x : View} (hr : rightV x = true) {n : Int} (hn : isPl n = true) (hne : (n == x.id) = false) : ownsV (notifyV x [n]) x.id = true := by
  have hn' := (isPl_iff n).1 hn
  have h0 := right_id hr
  have hrt := right_told hr n
  change ownsV (toldV x n) x.id = true
  have hid : (toldV x n).id = x.id := by unfold toldV; split <;> rfl
  have hpos : 0 ≤ (toldV x n).pred := by
    cases hb : betterV x n with
    | true => rw [told_yes hb]; exact hn'.1
    | false =>
      rw [told_no hb]
      rcases right_pred hr with h | h
      · exfalso
        simp at hne
        simp [betterV, hr, hn, hne, h] at hb
      · exact h
  simp only [ownsV, hrt, hid, Bool.true_and, Bool.and_eq_true, decide_eq_true_eq, upTo_iff]
  refine ⟨hpos, .inr (by omega)⟩

/-- The better one of two, seen from d. -/
def bestS (d b n : Int) : Int := if 0 ≤ n ∧ n < 65536 ∧ n ≠ d ∧ (b < 0 ∨ far n d < far b d) then n else b
theorem bestS_comm {d b n m : Int} (hd : 0 ≤ d ∧ d < 65536) (hb : b = -1 ∨ 0 ≤ b ∧ b < 65536 ∧ b ≠ d) : bestS d (bestS d b n) m = bestS d (bestS d b m) n := by
  unfold bestS far
  repeat' split
  all_goals omega
theorem bestS_idem (d b n : Int) : bestS d (bestS d b n) n = bestS d b n := by
  unfold bestS
  repeat' split
  all_goals omega
theorem bestS_ok {d b n : Int} (hb : b = -1 ∨ 0 ≤ b ∧ b < 65536 ∧ b ≠ d) : bestS d b n = -1 ∨ 0 ≤ bestS d b n ∧ bestS d b n < 65536 ∧ bestS d b n ≠ d := by
  unfold bestS
  split <;> omega
def bestL (d b : Int) (l : List Int) : Int := l.foldl (bestS d) b
theorem bestL_ok {d : Int} (l : List Int) : ∀ {b : Int}, (b = -1 ∨ 0 ≤ b ∧ b < 65536 ∧ b ≠ d) → bestL d b l = -1 ∨ 0 ≤ bestL d b l ∧ bestL d b l < 65536 ∧ bestL d b l ≠ d := by
  induction l with
  | nil => intro b hb; exact hb
  | cons n l ih => intro b hb; exact ih (bestS_ok hb)
theorem bestL_snoc {d : Int} (hd : 0 ≤ d ∧ d < 65536) (n : Int) (l : List Int) : ∀ {b : Int}, (b = -1 ∨ 0 ≤ b ∧ b < 65536 ∧ b ≠ d) → bestS d (bestL d b l) n = bestL d (bestS d b n) l := by
  induction l with
  | nil => intro b _; rfl
  | cons m l ih =>
    intro b hb
    show bestS d (bestL d (bestS d b m) l) n = bestL d (bestS d (bestS d b n) m) l
    rw [ih (bestS_ok hb), bestS_comm hd hb]
theorem bestL_back {d : Int} (hd : 0 ≤ d ∧ d < 65536) (l : List Int) : ∀ {b : Int}, (b = -1 ∨ 0 ≤ b ∧ b < 65536 ∧ b ≠ d) → bestL d b l.reverse = bestL d b l := by
  induction l with
  | nil => intro b _; rfl
  | cons n l ih =>
    intro b hb
    have h1 : bestL d b (n :: l).reverse = bestS d (bestL d b l.reverse) n := by simp [bestL, List.foldl_append]
    rw [h1, bestL_snoc hd n l.reverse hb, ih (bestS_ok hb)]
    rfl
theorem bestL_stay {d : Int} (hd : 0 ≤ d ∧ d < 65536) (n : Int) (l : List Int) : ∀ {b : Int}, (b = -1 ∨ 0 ≤ b ∧ b < 65536 ∧ b ≠ d) → n ∈ l → bestS d (bestL d b l) n = bestL d b l := by
  induction l with
  | nil => intro b _ h; cases h
  | cons m l ih =>
    intro b hb h
    show bestS d (bestL d (bestS d b m) l) n = bestL d (bestS d b m) l
    rcases List.mem_cons.1 h with rfl | h
    · rw [bestL_snoc hd n l (bestS_ok hb), bestS_idem]
    · exact ih (bestS_ok hb) h
theorem bestL_fix {d : Int} (l : List Int) : ∀ {b : Int}, (∀ n ∈ l, bestS d b n = b) → bestL d b l = b := by
  induction l with
  | nil => intro b _; rfl
  | cons m l ih =>
    intro b h
    show bestL d (bestS d b m) l = b
    rw [h m (by simp)]
    exact ih fun n hn => h n (by simp [hn])
theorem bestL_again {d : Int} (hd : 0 ≤ d ∧ d < 65536) (l : List Int) {b : Int} (hb : b = -1 ∨ 0 ≤ b ∧ b < 65536 ∧ b ≠ d) : bestL d (bestL d b l) l = bestL d b l :=
  bestL_fix l fun _ hn => bestL_stay hd _ l hb hn
theorem right_pred3 {x : View} (hr : rightV x = true) : x.pred = -1 ∨ 0 ≤ x.pred ∧ x.pred < 65536 ∧ x.pred ≠ x.id := by
  have ho := right_other hr
  simp only [other, Bool.or_eq_true, beq_iff_eq, Bool.and_eq_true, isPl_iff, bne_iff_ne, ne_eq] at ho
  omega
theorem better_iff {x : View} (hr : rightV x = true) (n : Int) : betterV x n = true ↔ 0 ≤ n ∧ n < 65536 ∧ n ≠ x.id ∧ (x.pred < 0 ∨ far n x.id < far x.pred x.id) := by
  have h0 := right_id hr
  have h1 := right_pred3 hr
  rw [betterV, hr]
  simp only [Bool.true_and, Bool.and_eq_true, isPl_iff, bne_iff_ne, ne_eq, Bool.or_eq_true, beq_iff_eq, inn_iff]
  unfold far
  omega
theorem told_best {x : View} (hr : rightV x = true) (n : Int) : toldV x n = x.withPred (bestS x.id x.pred n) := by
  have h := better_iff hr n
  unfold bestS
  split
  · rename_i hc; exact told_yes (h.2 hc)
  · rename_i hc; exact told_no (by rw [Bool.eq_false_iff]; exact fun hb => hc (h.1 hb))
theorem notify_best (l : List Int) : ∀ {x : View}, rightV x = true → notifyV x l = x.withPred (bestL x.id x.pred l) := by
  induction l with
  | nil => intro x _; rfl
  | cons n l ih =>
    intro x hr
    show notifyV (toldV x n) l = _
    rw [ih (right_told hr n), told_best hr]; rfl
theorem notify_right {x : View} (hr : rightV x = true) (l : List Int) : rightV (notifyV x l) = true := by
  induction l generalizing x with
  | nil => exact hr
  | cons n l ih => exact ih (right_told hr n)
theorem best_words {x : View} (hr : rightV x = true) (l : List Int) : let w := x.withPred (bestL x.id x.pred l)
    sameV (notifyV x l) w = true ∧ sameV (notifyV x l.reverse) w = true ∧ sameV (notifyV (notifyV x l) l) w = true ∧ rightV (notifyV x l) = true ∧ ((notifyV x l).pred != x.id) = true := by
  have h0 := right_id hr
  have h1 := right_pred3 hr
  have h2 := notify_right hr l
  have h3 := right_pred3 h2
  refine ⟨same_of (notify_best l hr), same_of ?_, same_of ?_, h2, ?_⟩
  · rw [notify_best _ hr, bestL_back h0 l h1]
  · rw [notify_best l h2, notify_best l hr]
    show (x.withPred _).withPred (bestL x.id (bestL x.id x.pred l) l) = _
    rw [bestL_again h0 l h1]; rfl
  · rw [notify_best l hr] at h3 ⊢
    have h3' : bestL x.id x.pred l = -1 ∨ 0 ≤ bestL x.id x.pred l ∧ bestL x.id x.pred l < 65536 ∧ bestL x.id x.pred l ≠ x.id := h3
    show (bestL x.id x.pred l != x.id) = true
    simp; omega
end Go.Proofs.YtbjgfcempfpfcaaDoor
