/- Plain laws of items (no Go): newer is an order; the newest. -/
import Derived.Test.YtbjgfcempfpfcaaDH
namespace Go.Proofs.Ytbjgfcempfpfcaa
open Go.RowKit Go.Shelf

theorem goneI_cases (x : It) : (x.gone = true ∧ x.goneI = 1) ∨ (x.gone = false ∧ x.goneI = 0) := by
  unfold It.goneI; cases x.gone <;> simp
theorem cmpInt_cases (a b : Int) : (a < b ∧ cmpInt a b = -1) ∨ (b < a ∧ cmpInt a b = 1) ∨ (a = b ∧ cmpInt a b = 0) := by
  unfold cmpInt; split
  · left; omega
  · split
    · right; left; omega
    · right; right; omega
/-- Lexicographic: less. -/
def lessI (a b : It) : Prop := a.version < b.version ∨ a.version = b.version ∧ (a.value < b.value ∨ a.value = b.value ∧ a.goneI < b.goneI)
def alike (a b : It) : Prop := a.version = b.version ∧ a.value = b.value ∧ a.goneI = b.goneI
theorem cmpI_cases (a b : It) : (lessI a b ∧ cmpI a b = -1) ∨ (lessI b a ∧ cmpI a b = 1) ∨ (alike a b ∧ cmpI a b = 0) := by
  unfold cmpI lessI alike
  rcases cmpInt_cases a.version b.version with ⟨h1, e1⟩ | ⟨h1, e1⟩ | ⟨h1, e1⟩ <;> rcases cmpInt_cases a.value b.value with ⟨h2, e2⟩ | ⟨h2, e2⟩ | ⟨h2, e2⟩ <;> rcases cmpInt_cases a.goneI b.goneI with ⟨h3, e3⟩ | ⟨h3, e3⟩ | ⟨h3, e3⟩ <;>
    simp only [e1, e2, e3, orI] <;> simp <;> omega
theorem lessI_asymm {a b : It} (h : lessI a b) : ¬ lessI b a := by unfold lessI at *; omega
theorem lessI_alike {a b : It} (h : lessI a b) : ¬ alike a b := by unfold lessI alike at *; omega
theorem alike_comm {a b : It} : alike a b ↔ alike b a := by unfold alike; omega
theorem alike_gone {a b : It} : alike a b ↔ a.version = b.version ∧ a.value = b.value ∧ a.gone = b.gone := by
  unfold alike
  rcases goneI_cases a with ⟨h1, e1⟩ | ⟨h1, e1⟩ <;> rcases goneI_cases b with ⟨h2, e2⟩ | ⟨h2, e2⟩ <;> simp [h1, h2, e1, e2]
theorem newer_iff (a b : It) : newerI a b = true ↔ lessI b a := by
  unfold newerI
  rcases cmpI_cases a b with ⟨h, e⟩ | ⟨h, e⟩ | ⟨h, e⟩
  · simp [e, lessI_asymm h]
  · simp [e, h]
  · simp [e]; exact fun h2 => lessI_alike h2 (alike_comm.1 h)
theorem newer_no (a b : It) : newerI a b = false ↔ ¬ lessI b a := by rw [← newer_iff]; simp
theorem cmpI_swap (a b : It) : cmpI b a = - cmpI a b := by
  rcases cmpI_cases a b with ⟨h, e⟩ | ⟨h, e⟩ | ⟨h, e⟩ <;> rcases cmpI_cases b a with ⟨h2, e2⟩ | ⟨h2, e2⟩ | ⟨h2, e2⟩ <;> rw [e, e2] <;> simp only [lessI, alike] at h h2 <;> omega
theorem newer_trans {a b c : It} (h1 : newerI a b = true) (h2 : newerI b c = true) : newerI a c = true := by
  rw [newer_iff] at *; unfold lessI at *; omega
theorem newer_irrefl (a : It) : newerI a a = false := by rw [newer_no]; unfold lessI; omega
theorem not_newer_trans {a b c : It} (h1 : newerI a b = false) (h2 : newerI b c = false) : newerI a c = false := by
  rw [newer_no] at *; unfold lessI at *; omega
theorem newer_asymm {a b : It} (h1 : newerI a b = true) : newerI b a = false := by
  rw [newer_iff] at h1; rw [newer_no]; exact lessI_asymm h1

theorem fold_newest : ∀ (l : List It) (p : It × Bool), p.2 = true → (l.foldl stepN p).2 = true ∧ ((l.foldl stepN p).1 = p.1 ∨ (l.foldl stepN p).1 ∈ l) ∧ newerI p.1 (l.foldl stepN p).1 = false ∧ ∀ x ∈ l, newerI x (l.foldl stepN p).1 = false
  | [], p, h => ⟨h, .inl rfl, newer_irrefl _, fun x hx => absurd hx (by simp)⟩
  | y :: l, p, h => by
    rw [List.foldl_cons]
    have hq : (stepN p y).2 = true ∧ ((stepN p y).1 = p.1 ∨ (stepN p y).1 = y) ∧ newerI p.1 (stepN p y).1 = false ∧ newerI y (stepN p y).1 = false := by
      unfold stepN
      rw [h, Bool.not_true, Bool.false_or]
      cases e : newerI y p.1 with
      | true => rw [if_pos rfl]; exact ⟨rfl, .inr rfl, newer_asymm e, newer_irrefl _⟩
      | false => rw [if_neg (by decide)]; exact ⟨h, .inl rfl, newer_irrefl _, e⟩
    obtain ⟨h1, h2, h3, h4⟩ := fold_newest l (stepN p y) hq.1
    refine ⟨h1, ?_, not_newer_trans hq.2.2.1 h3, ?_⟩
    · rcases h2 with h2 | h2
      · rw [h2]
        rcases hq.2.1 with h5 | h5
        · exact .inl h5
        · exact .inr (by rw [h5]; simp)
      · exact .inr (List.mem_cons_of_mem _ h2)
    · intro x hx
      rcases List.mem_cons.1 hx with rfl | hx
      · exact not_newer_trans hq.2.2.2 h3
      · exact h4 x hx
/-- The newest one of those that may be. -/
theorem newest_none {l : List It} (h : l.filter pairI = []) : newestP l = (It.zero, false) := by rw [newestP, h]; rfl
theorem newest_some {l : List It} (h : l.filter pairI ≠ []) : (newestP l).2 = true ∧ (newestP l).1 ∈ l.filter pairI ∧ ∀ x ∈ l, pairI x = true → newerI x (newestP l).1 = false := by
  unfold newestP
  obtain ⟨y, r, e⟩ : ∃ y r, l.filter pairI = y :: r := by
    cases hh : l.filter pairI with
    | nil => exact absurd hh h
    | cons y r => exact ⟨y, r, rfl⟩
  have hm : ∀ x ∈ l, pairI x = true → x ∈ y :: r := fun x hx hp => by rw [← e]; exact List.mem_filter.2 ⟨hx, hp⟩
  rw [e, List.foldl_cons]
  have hs : stepN (It.zero, false) y = (y, true) := by simp [stepN]
  rw [hs]
  obtain ⟨h1, h2, h3, h4⟩ := fold_newest r (y, true) rfl
  refine ⟨h1, ?_, fun x hx hp => ?_⟩
  · rcases h2 with h2 | h2
    · rw [h2]; simp
    · exact List.mem_cons_of_mem _ h2
  · rcases List.mem_cons.1 (hm x hx hp) with rfl | hx
    · exact h3
    · exact h4 x hx
theorem newest_flag (l : List It) : (newestP l).2 = !(l.filter pairI).isEmpty := by
  by_cases h : l.filter pairI = []
  · rw [newest_none h, h]; rfl
  · rw [(newest_some h).1]; cases hh : l.filter pairI with
    | nil => exact absurd hh h
    | cons y r => rfl
theorem same_refl (a : It) : It.same a a = true := by simp [It.same]
theorem newest_both (l m : List It) : (newestP (l ++ m)).2 = ((newestP l).2 || (newestP m).2) := by
  rw [newest_flag, newest_flag, newest_flag, List.filter_append]
  cases l.filter pairI <;> cases m.filter pairI <;> rfl
theorem newest_left {l m : List It} (h : (newestP l).2 = true) : newerI (newestP l).1 (newestP (l ++ m)).1 = false := by
  have h1 : l.filter pairI ≠ [] := fun e => by rw [newest_none e] at h; cases h
  obtain ⟨-, h2, -⟩ := newest_some h1
  have h3 : (l ++ m).filter pairI ≠ [] := fun e => by rw [List.filter_append] at e; exact h1 (List.append_eq_nil_iff.1 e).1
  obtain ⟨h4, h5⟩ := List.mem_filter.1 h2
  exact (newest_some h3).2.2 _ (List.mem_append_left _ h4) h5
theorem newest_right {l m : List It} (h : (newestP m).2 = true) : newerI (newestP m).1 (newestP (l ++ m)).1 = false := by
  have h1 : m.filter pairI ≠ [] := fun e => by rw [newest_none e] at h; cases h
  obtain ⟨-, h2, -⟩ := newest_some h1
  have h3 : (l ++ m).filter pairI ≠ [] := fun e => by rw [List.filter_append] at e; exact h1 (List.append_eq_nil_iff.1 e).2
  obtain ⟨h4, h5⟩ := List.mem_filter.1 h2
  exact (newest_some h3).2.2 _ (List.mem_append_right _ h4) h5
theorem newest_all {l : List It} (h : (newestP l).2 = true) : ∀ x ∈ l, pairI x = true → newerI x (newestP l).1 = false := by
  have h1 : l.filter pairI ≠ [] := fun e => by rw [newest_none e] at h; cases h
  exact (newest_some h1).2.2
theorem newest_in {l : List It} (h : (newestP l).2 = true) : (newestP l).1 ∈ l ∧ pairI (newestP l).1 = true := by
  have h1 : l.filter pairI ≠ [] := fun e => by rw [newest_none e] at h; cases h
  exact List.mem_filter.1 (newest_some h1).2.1
theorem newest_no {l : List It} (h : (newestP l).2 = false) : (newestP l).1 = It.zero ∧ ∀ x ∈ l, pairI x = false := by
  have h1 : l.filter pairI = [] := by
    refine Classical.byContradiction fun e => ?_
    rw [(newest_some e).1] at h; cases h
  rw [newest_none h1]
  refine ⟨rfl, fun x hx => ?_⟩
  cases hp : pairI x with
  | false => rfl
  | true => have : x ∈ l.filter pairI := List.mem_filter.2 ⟨hx, hp⟩; rw [h1] at this; cases this
end Go.Proofs.Ytbjgfcempfpfcaa
