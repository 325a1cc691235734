/- Contracts: slices.AppendSeq, slices.Collect of items. -/
import Derived.Test.YtbjgfcempfpfcaaDF
import Derived.OwnWalkIn
namespace Go.Proofs.Ytbjgfcempfpfcaa
open Go.RowKit Go.Shelf

attribute [local go_sem] Oper.semAt_some

theorem item_info : ∃ i, Try.prog.info? 40 = some i ∧ i.zero = some (It.v It.zero) ∧ i.size = 4 ∧ i.bytes = 40 := by
  have h : (Try.prog.info? 40).isSome = true := by kernel_rfl
  obtain ⟨i, hi⟩ := Option.isSome_iff_exists.1 h
  have h0 : (Try.prog.info? 40).bind (·.zero) = some (It.v It.zero) := by kernel_rfl
  have h1 : (Try.prog.info? 40).map (·.size) = some 4 := by kernel_rfl
  have h2 : (Try.prog.info? 40).map (·.bytes) = some 40 := by kernel_rfl
  rw [hi] at h0 h1 h2
  exact ⟨i, hi, h0, by simpa using h1, by simpa using h2⟩
theorem owns_abide {L : Nat} {A A' : World} {base : Nat} {e : TypeId} {n : Nat} {v : Value} {xs : List Value} (h : A.ownsRow base e 4 v n xs) (ha : Abide (fun _ => False) L A A') : A'.ownsRow base e 4 v n xs := by
  obtain ⟨h1, h2 | ⟨g, cap, cur, hv, hb, hg, h3⟩⟩ := h
  · exact ⟨h1, .inl h2⟩
  · exact ⟨h1, .inr ⟨g, cap, cur, hv, hb, ha.row (fun h => h) hg rfl, h3⟩⟩
theorem owns_putObj {A : World} {D : Nat} {base : Nat} {e : TypeId} {n : Nat} {v : Value} {xs : List Value} (h : A.ownsRow base e 4 v n xs) {o : Obj} (hD : A.heap[D]? = some o) (ho : o.isCells = false) (o' : Obj) : (A.putObj D o').ownsRow base e 4 v n xs := by
  obtain ⟨h1, h2 | ⟨g, cap, cur, hv, hb, hg, h3⟩⟩ := h
  · exact ⟨h1, .inl h2⟩
  · refine ⟨h1, .inr ⟨g, cap, cur, hv, hb, (World.putObj_heap_other (fun e => ?_)).trans hg, h3⟩⟩
    rw [e, hD] at hg; cases hg; cases ho
theorem owns_set {A : World} {p : Addr} {base : Nat} {e : TypeId} {n : Nat} {v : Value} {xs : List Value} (h : A.ownsRow base e 4 v n xs) (hp : p.block < base) (u : Value) : (A.setCell p u).ownsRow base e 4 v n xs := by
  obtain ⟨h1, h2 | ⟨g, cap, cur, hv, hb, hg, h3⟩⟩ := h
  · exact ⟨h1, .inl h2⟩
  · exact ⟨h1, .inr ⟨g, cap, cur, hv, hb, (Below.heap_setCell A p u g (by omega)).trans hg, h3⟩⟩
theorem BodyKeeps.grown {B : Nat} {R : Nat → Prop} {A A' : World} {base : Nat} {e : TypeId} {n : Nat} {v : Value} {xs : List Value} (h : A.ownsRow base e 4 v n xs) (hg : A.grownBy A' v.ownBlock) (hR : ∀ k, R k → k < A.heap.size ∧ k < base) : BodyKeeps B R A A' := by
  refine ⟨⟨hg.os, hg.tape, hg.output, hg.size⟩, fun k o _ ho hc => (hg.block k (Array.getElem?_eq_some_iff.1 ho).1 (fun e => ?_)).trans ho, fun k hk => hg.block k (hR k hk).1 (fun e => ?_)⟩
  · obtain ⟨-, ⟨rfl, -⟩ | ⟨g, cap, cur, rfl, hb, hg', -⟩⟩ := h
    · cases e
    · injection e with e; subst e
      rw [ho] at hg'; cases hg'; cases hc
  · have := (h.lt k e.symm).1
    have := (hR k hk).2
    omega

theorem item_news (W : World) (x : It) : ∀ j u, x.cells.toList[j]? = some u → (W.alloc (.cells #[.string x.key, .int .i64 x.value, .int .i64 x.version, .bool x.gone] 40)).cell? ((⟨W.heap.size, 0, none⟩ : Addr).add j) = some u := by
  intro j u hu
  have hb : IBox (W.alloc (.cells x.cells 40)) W.heap.size x := IBox.new W x
  obtain ⟨c0, c1, c2, c3⟩ := hb.cells
  rw [addr_add, Nat.zero_add]
  have hj : j < 4 := (List.getElem?_eq_some_iff.1 hu).1
  have hj4 : j = 0 ∨ j = 1 ∨ j = 2 ∨ j = 3 := by omega
  rcases hj4 with rfl | rfl | rfl | rfl
  · rw [← hu]; exact c0
  · rw [← hu]; exact c1
  · rw [← hu]; exact c2
  · rw [← hu]; exact c3
theorem own_slice {w : World} {base : Nat} {e : TypeId} {v : Value} {n : Nat} {xs : List Value} (h : w.ownsRow base e 4 v n xs) : ∃ A m c, v = .slice A m c := by
  obtain ⟨-, ⟨rfl, -⟩ | ⟨g, cap, cur, rfl, -⟩⟩ := h
  · exact ⟨_, _, _, rfl⟩
  · exact ⟨_, _, _, rfl⟩
theorem box_grown {w W w1 : World} {t e : TypeId} {v u : Value} {n : Nat} {xs : List Value} {o : Obj} (hb : Boxed W w.heap.size t u) (hown : W.ownsRow (w.heap.size + 1) e 4 v n xs) (hg : (W.alloc o).grownBy w1 v.ownBlock) : Boxed w1 w.heap.size t u :=
  (hg.block w.heap.size (by simp; have := hb.lt; omega) (fun e => by have := (hown.lt _ e.symm).1; omega)).trans ((Below.heap_alloc W o _ hb.lt).trans hb)

set_option maxRecDepth 100000 in
set_option maxHeartbeats 2000000 in
theorem slices_AppendSeq {gf : Nat} {lb : Array Value} {R : Nat → Prop} {xs : List It} {w : World} (hsm : xs.length ≤ 1099511627776) (eg : ∀ args w, (callFunc gf args).run Try.prog w = .ok (.enter gf args) w)
    (hR : ∀ k, R k → k < w.heap.size) (hit : ∀ W, Below w.heap.size w W → IterAt Try.prog gf lb encIt (fun _ => False) R xs W) :
    Calls Try.prog 106 #[.slice none 0 0, .func (.func gf) #[] lb] w (RetI w xs) := by
  obtain ⟨i0, hi, hz0, hz1, hz2⟩ := item_info
  refine calls_of_wp_marks Try.func106 rfl ?_
  simp only [Try.ntmps106, List.size_toArray, List.length_cons, List.length_nil, Nat.reduceAdd, Nat.reduceSub, Array.replicate_succ, Array.replicate_zero, List.push_toArray, List.append_toArray, List.nil_append, List.cons_append]
  go_wp2
  obtain ⟨W5, hW5⟩ : ∃ W5, w.alloc (.cells #[.slice none 0 0] 44) = W5 := ⟨_, rfl⟩
  have hb5 : Below w.heap.size w W5 := by rw [← hW5]; exact one_more _
  have z5 : W5.heap.size = w.heap.size + 1 := by rw [← hW5]; simp
  have bx5 : Boxed W5 w.heap.size 44 (.slice none 0 0) := by rw [← hW5]; exact Boxed.new w 44 (.slice none 0 0)
  rw [hW5]
  clear hW5
  refine wp_rf2 (gf := gf) (lb := lb) rfl eg (encs := encIt) (T := fun _ => False) (R := R) (xs := xs)
    (fun o1 o2 => hit _ (hb5.trans ((two_more o1 o2).mono (by omega))))
    (fun k e => e.elim) (fun k e => by have := hR k e; omega) (fun _ => rfl)
    (fun pre W => (∃ v, Boxed W w.heap.size 44 v ∧ W.ownsRow (w.heap.size + 1) 40 4 v pre.length (ivI pre)) ∧ Below w.heap.size w W ∧ W5.heap.size ≤ W.heap.size)
    (fun _ _ _ => False)
    (fun _ _ h => h.2.2)
    (fun s A A' h ha => ⟨⟨h.1.choose, box_abide h.1.choose_spec.1 ha (fun h => h), owns_abide h.1.choose_spec.2 ha⟩, h.2.1.trans (ha.below (by omega) (fun k _ hk => hk)), Nat.le_trans h.2.2 ha.grows.size⟩)
    (fun _ _ _ _ h _ => h)
    ⟨⟨_, bx5, World.ownsRow_nil _ _ _ _⟩, hb5, Nat.le_refl _⟩
    (fun x a W => ∃ B, IBox W B x ∧ a = { tmps := #[.slice none 0 0, .func (.func gf) #[] lb, .pointer (some ⟨w.heap.size, 0, none⟩), undef, .slice none 0 0, .pointer (some ⟨B, 0, none⟩), .func (.func gf) #[] lb, .agg x.cells, undef, undef, undef, undef, undef], defers := [] })
    (fun x a A A' h ha => ⟨h.choose, ha.row (fun h => h) h.choose_spec.1 rfl, h.choose_spec.2⟩) ?assign ?body ?done (fun _ _ _ _ _ _ _ _ h _ => h.elim)
  case assign =>
    intro ly pre x W K hI hK
    dsimp only [encIt, It.cells]
    gi_wp2
    exact hK _ _ ⟨_, IBox.new W x, rfl⟩ (one_more _)
  case body =>
    rintro ly pre x rest a' W hxs ⟨⟨v, hbx, hown⟩, hB, hz⟩ ⟨B, hx, rfl⟩
    have hlen : pre.length < xs.length := by rw [hxs]; simp
    have cv := hbx.cell
    have hfn : ∀ k, Fence.wide.fn k := fun _ => trivial
    have hdp : Fence.wide.depth = none := rfl
    have hx1 := IBox.new W x
    have HB := Lib.hid (And.intro hbx (And.intro hown (And.intro hB hz)))
    clear hxs
    gi_wp2_with (first | (refine wpListIn_load_item (t := 5) x B ?hg ?hw ?hx ?_; (case hg => exact hx); (case hw => rfl); (case hx => rfl)) | (gi_at_builtin; refine wpListIn_append_own_at _ rfl (.tmp 8) (.tmp 10) _ rfl (w.heap.size + 1) 40 i0 _ 4 40 Try.underlying44 hi hz0 hz1 hz2 rfl (by omega) v pre.length (ivI pre) rfl (hown.alloc _) ⟨W.heap.size, 0, none⟩ 1 1 x.cells.toList rfl rfl ?hn (ivI_one [x]) ?h1 ?h2 ?h3 ?_; (case hn => exact item_news W x); (case h1 => simp only [maxLen]; omega); (case h2 => omega); (case h3 => simp; omega); intro v1 w1 hown1 hg1 hnil1 hat1; have bx1 := box_grown (w := w) hbx hown hg1; have cv1 := bx1.cell; have fv1 := bx1.frozen; obtain ⟨A1, n1, k1, rfl⟩ := own_slice hown1))
    have hlow : w.heap.size < w.heap.size + 1 := Nat.lt_succ_self _
    obtain ⟨hbx, hown, hB, hz⟩ := HB.out
    refine ⟨((BodyKeeps.of_below (one_more (w := W) _) (fun k hk => by have := hR k hk; omega)).trans (BodyKeeps.grown (hown.alloc _) hg1 (fun k hk => by have := hR k hk; simp; omega))).trans (BodyKeeps.setCell w1 (p := ⟨w.heap.size, 0, none⟩) (fun hk => by have := hR _ hk; simp at this) _), ⟨_, bx1.set _, ?_⟩, ?_, ?_⟩
    · rw [List.length_append, ivI_append]
      exact owns_set hown1 (by show w.heap.size < w.heap.size + 1; omega) _
    · exact ((hB.alloc (by have := hB.size; exact this) _).grown hg1 (by have := hB.size; simp; omega) (fun k hk => by have := (hown.lt k hk).1; omega)).setCell (p := ⟨w.heap.size, 0, none⟩) (Nat.le_refl _) _
    · exact Nat.le_trans hz (Nat.le_trans (one_more (w := W) _).size (Nat.le_trans hg1.size (Grows.setCell w1 _ _).size))
  case done =>
    rintro D W hD ⟨⟨v, hbx, hown⟩, hB, hz⟩ hK
    obtain ⟨A, c, rfl, hs, hm, hf⟩ := SlI.of_owns hown
    have cv := hbx.cell
    go_wp2
    refine leave_mark hK (v := .slice A xs.length c) (by simp [results, Try.f106, go_sem]) ⟨A, c, rfl, ?_, hm, hB.trans (below_mark (by omega)), fun b off e => by have := hf b off e; omega⟩
    obtain ⟨A', c', e', hs', -, -⟩ := SlI.of_owns (owns_putObj hown hK rfl (.deferred none))
    cases e'
    exact hs'
end Go.Proofs.Ytbjgfcempfpfcaa
