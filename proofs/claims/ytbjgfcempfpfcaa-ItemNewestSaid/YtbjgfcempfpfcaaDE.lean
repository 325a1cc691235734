/- Rows of items of the call's own. -/
import Derived.Test.YtbjgfcempfpfcaaDD
import Derived.Test.YtbjgfcempfpfcaaC
import Derived.Maps.OwnIn
namespace Go.Proofs.Ytbjgfcempfpfcaa
open Go.RowKit Go.Shelf

def ivI (l : List It) : List Value := l.flatMap fun x => x.cells.toList
theorem ivI_length (l : List It) : (ivI l).length = l.length * 4 := by
  induction l with
  | nil => rfl
  | cons x l ih =>
    have : ivI (x :: l) = x.cells.toList ++ ivI l := rfl
    rw [this, List.length_append, ih, List.length_cons]
    have : x.cells.toList.length = 4 := rfl
    omega
theorem ivI_append (l m : List It) : ivI (l ++ m) = ivI l ++ ivI m := by simp [ivI]
theorem ivI_at : ∀ (l : List It) (k j : Nat), k < l.length → j < 4 → (ivI l)[k * 4 + j]? = (nthI l k).cells.toList[j]?
  | [], k, j, h, _ => absurd h (by simp)
  | x :: l, 0, j, _, hj => by
    have e : ivI (x :: l) = x.cells.toList ++ ivI l := rfl
    have e4 : x.cells.toList.length = 4 := rfl
    rw [e, List.getElem?_append_left (by omega)]
    simp [nthI]
  | x :: l, k + 1, j, h, hj => by
    have e : ivI (x :: l) = x.cells.toList ++ ivI l := rfl
    have e4 : x.cells.toList.length = 4 := rfl
    rw [e, List.getElem?_append_right (by omega), e4, show (k + 1) * 4 + j - 4 = k * 4 + j by omega, ivI_at l k j (by simpa using h) hj]
    simp [nthI]
theorem ivI_one (l : List It) : ∀ u ∈ ivI l, u.oneCell' = true := by
  intro u hu
  simp only [ivI, List.mem_flatMap] at hu
  obtain ⟨x, _, h⟩ := hu
  simp only [It.cells, List.mem_cons, List.not_mem_nil, or_false] at h
  rcases h with rfl | rfl | rfl | rfl <;> rfl
theorem SlI.of_owns {w : World} {base : Nat} {e : TypeId} {v : Value} {xs : List It} (h : w.ownsRow base e 4 v xs.length (ivI xs)) :
    ∃ A c, v = .slice A xs.length c ∧ SlI w A c xs ∧ c ≤ maxLen ∧ ∀ b off, A = some ⟨b, off, none⟩ → base ≤ b := by
  obtain ⟨-, ⟨rfl, h0⟩ | ⟨g, cap, cur, rfl, hb, hg, hn, hm, hsz, htk⟩⟩ := h
  · obtain rfl := List.eq_nil_of_length_eq_zero h0
    exact ⟨none, 0, rfl, SlI.nil w, Nat.zero_le _, fun b off e => by cases e⟩
  · refine ⟨some ⟨g, 0, none⟩, cap, rfl, ⟨hn, (fun e => by cases e), fun _ => ⟨g, 0, rfl, (Array.getElem?_eq_some_iff.1 hg).1, fun k hk j u hu => ?_⟩⟩, hm, fun b off e => by injection e with e; injection e with e1 _ _; omega⟩
    have hj : j < 4 := by
      have := (List.getElem?_eq_some_iff.1 hu).1
      exact this
    have h1 := ivI_at xs k j hk hj
    rw [← htk, List.getElem?_take_of_lt (by omega)] at h1
    simp only [World.cell?, hg]
    rw [hu] at h1
    simpa using h1
def RetI (w0 : World) (xs : List It) (e : Ending) (w' : World) : Prop := ∃ A c, e = .returned (.slice A xs.length c) ∧ SlI w' A c xs ∧ c ≤ maxLen ∧ Below w0.heap.size w0 w' ∧ ∀ b off, A = some ⟨b, off, none⟩ → w0.heap.size ≤ b
theorem item_those (A : Option Addr) (n c : Nat) (f : Value) (w : World) (hf : ∃ fn f1 f2, f = .func fn f1 f2) :
    Calls Try.prog 75 #[.slice A n c, f] w fun e w' => e = .returned (.func (.func 107) #[] #[.pointer (some ⟨w.heap.size, 0, none⟩), .pointer (some ⟨w.heap.size + 1, 0, none⟩)]) ∧
      (w.alloc (.cells #[.slice A n c] 44)).alloc (.cells #[f] 48) = w' := by
  obtain ⟨fn, f1, f2, rfl⟩ := hf
  go_enter Try.func75, Try.ntmps75
  go_wp2
  go_ret
  exact ⟨rfl, rfl⟩
end Go.Proofs.Ytbjgfcempfpfcaa
