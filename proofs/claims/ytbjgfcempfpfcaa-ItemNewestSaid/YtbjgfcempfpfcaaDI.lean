/- Contract: item.Of. -/
import Derived.Test.YtbjgfcempfpfcaaDH
namespace Go.Proofs.Ytbjgfcempfpfcaa
open Go.RowKit Go.Shelf

attribute [local go_sem] Oper.semAt_some

def ofI (key : ByteArray) (x : It) : Bool := x.key.toList == key.toList
set_option maxRecDepth 100000 in
theorem item_Of1 (x : It) (key : ByteArray) (bk : Nat) (w : World) (hk : w.cell? ⟨bk, 0, none⟩ = some (.string key)) :
    Calls Try.prog 105 #[x.v, .pointer (some ⟨bk, 0, none⟩)] w fun e w' => e = .returned (.bool (ofI key x)) ∧ Below w.heap.size w w' := by
  unfold It.v It.cells ofI
  have hk1 : (w.alloc (.cells #[.string x.key, .int .i64 x.value, .int .i64 x.version, .bool x.gone] 40)).cell? ⟨bk, 0, none⟩ = some (.string key) := by
    have hlt : bk < w.heap.size := by
      rcases Nat.lt_or_ge bk w.heap.size with h | h
      · exact h
      · simp [World.cell?, Array.getElem?_eq_none h] at hk
    exact (World.cell?_of_block (a := ⟨bk, 0, none⟩) (Below.heap_alloc w _ bk hlt)).trans hk
  go_enter Try.func105, Try.ntmps105
  go_wp2
  go_ret
  exact ⟨rfl, one_more _⟩
set_option maxRecDepth 100000 in
set_option maxHeartbeats 1000000 in
theorem those_of_iter (A : Option Addr) (c : Nat) (l : List It) (bl bs bk n0 : Nat) (key : ByteArray) (W : World) (hs : SlI W A c l) (hA : 0 < l.length → ∀ b off, A = some ⟨b, off, none⟩ → b < n0)
    (hbl : Boxed W bl 44 (.slice A l.length c)) (hbs : Boxed W bs 48 (.func (.func 105) #[] #[.pointer (some ⟨bk, 0, none⟩)])) (hbk : Boxed W bk 9 (.string key)) (hn0 : n0 ≤ W.heap.size) (hsm : l.length ≤ 17592186044416) :
    IterAt Try.prog 107 #[.pointer (some ⟨bl, 0, none⟩), .pointer (some ⟨bs, 0, none⟩)] encIt (fun _ => False) (fun k => k < n0 ∨ k = bl ∨ k = bs ∨ k = bk) (l.filter (ofI key)) W := by
  intro ly J Jx hJ hJx hY h0
  refine callsIn_of_wp Try.func107 rfl trivial ?_ rfl
  simp only [Try.ntmps107, List.size_toArray, List.length_cons, List.length_nil, Nat.reduceAdd, Nat.reduceSub, Array.replicate_succ, Array.replicate_zero, List.push_toArray, List.append_toArray, List.nil_append, List.cons_append]
  have hfn : ∀ k, Fence.wide.fn k := fun _ => trivial
  have hdp : Fence.wide.depth = none := rfl
  have c1' := hbl.cell
  have hcap := hs.cap
  have hlow0 := Lib.hid (show ∀ j, (j < n0 ∨ j = bl ∨ j = bs ∨ j = bk) → j < W.heap.size from fun j hj => by
    rcases hj with h | h | h | h
    · omega
    · rw [h]; exact hbl.lt
    · rw [h]; exact hbs.lt
    · rw [h]; exact hbk.lt)
  have H0 := Lib.hid h0
  clear h0
  gi_wp2
  gi_loopw [5, 8] (fun t5 i wr => ∃ k : Nat, k ≤ l.length ∧ i = .int .i64 k ∧ Hid (J ((l.take k).filter (ofI key)) wr ∧ W.heap.size ≤ wr.heap.size ∧ (∀ j, (j < n0 ∨ j = bl ∨ j = bs ∨ j = bk) → wr.heap[j]? = W.heap[j]?)))
    (fun t5 i _ => l.length - (intOf i).toNat)
  case atStart => exact ⟨0, Nat.zero_le _, rfl, Lib.hid ⟨H0.out, Nat.le_refl _, fun _ _ => rfl⟩⟩
  case round =>
    clear H0
    obtain ⟨k, hk, rfl, hw⟩ := hrel
    by_cases hlt2 : k < l.length
    · obtain ⟨b, off, rfl, _, hcell⟩ := hs.at_ (by omega)
      have hkeep := Lib.hid (fun j (hj : j < n0 ∨ j = bl ∨ j = bs ∨ j = bk) => hw.out.2.2 j hj)
      have hrng : wr.rangeAt b (off + k * 4) (nthI l k).cells.toList := fun j v hv => (World.cell?_of_block (a := ⟨b, off + k * 4 + j, none⟩) (hkeep.out b (.inl (hA (by omega) b off rfl)))).trans (hcell k hlt2 j v hv)
      have hso : wr.cell? ⟨bs, 0, none⟩ = some (.func (.func 105) #[] #[.pointer (some ⟨bk, 0, none⟩)]) := (World.cell?_of_block (a := ⟨bs, 0, none⟩) (hkeep.out bs (.inr (.inr (.inl rfl))))).trans hbs.cell
      clear hcell
      have hnew := IBox.new wr (nthI l k)
      have hb1 := one_more (w := wr) (.cells (nthI l k).cells 40)
      have hlow := Lib.hid (fun j (hj : j < n0 ∨ j = bl ∨ j = bs ∨ j = bk) => Nat.lt_of_lt_of_le (hlow0.out j hj) hw.out.2.1)
      have hso2 : (wr.alloc (.cells #[.string (nthI l k).key, .int .i64 (nthI l k).value, .int .i64 (nthI l k).version, .bool (nthI l k).gone] 40)).cell? ⟨bs, 0, none⟩ = some (.func (.func 105) #[] #[.pointer (some ⟨bk, 0, none⟩)]) := (World.cell?_of_block (a := ⟨bs, 0, none⟩) (hb1.block bs (by have := hbs.lt; have := hw.out.2.1; omega))).trans hso
      have hkc : (wr.alloc (.cells #[.string (nthI l k).key, .int .i64 (nthI l k).value, .int .i64 (nthI l k).version, .bool (nthI l k).gone] 40)).cell? ⟨bk, 0, none⟩ = some (.string key) := (World.cell?_of_block (a := ⟨bk, 0, none⟩) (hb1.block bk (by have := hbk.lt; have := hw.out.2.1; omega))).trans ((World.cell?_of_block (a := ⟨bk, 0, none⟩) (hkeep.out bk (.inr (.inr (.inr rfl))))).trans hbk.cell)
      have hnx := Lib.hid (filter_next (ofI key) hlt2)
      cases e1 : (ofI key) (nthI l k) with
      | false =>
        gi_wp2_with (first | (refine wpListIn_load_imid (t := 10) (nthI l k) b (off + k * 4) ?hg ?hw ?hx ?_; (case hg => exact hrng); (case hw => rfl); (case hx => rfl)) | (refine wpListIn_load_item (t := 5) (nthI l k) wr.heap.size ?hg ?hw ?hx ?_; (case hg => exact hnew); (case hw => rfl); (case hx => rfl)) | (gi_at_call 105; refine (callsIn_wide.2 (item_Of1 (nthI l k) key bk _ hkc)).mono ?_; rintro e W2 ⟨he, hb⟩; rw [e1] at he; subst he))
        go_roundw
        case rel =>
          have hb2 := hb1.trans (hb.mono hb1.size)
          exact ⟨k + 1, by omega, by go_num, Lib.hid ⟨by rw [hnx.out, e1]; simp only [Bool.false_eq_true, if_false, List.append_nil]; exact hJ _ _ _ hw.out.1 (Steps1.of_below hb2), Nat.le_trans hw.out.2.1 hb2.size, fun j hj => (hb2.block j (hlow.out j hj)).trans (hw.out.2.2 j hj)⟩⟩
        case measure => simp [intOf]; omega
      | true =>
        obtain ⟨rest, he0⟩ := filter_split (ofI key) hlt2 e1
        have HE := Lib.hid he0
        clear he0
        gi_wp2_with (first | (refine wpListIn_load_imid (t := 10) (nthI l k) b (off + k * 4) ?hg ?hw ?hx ?_; (case hg => exact hrng); (case hw => rfl); (case hx => rfl)) | (refine wpListIn_load_item (t := 5) (nthI l k) wr.heap.size ?hg ?hw ?hx ?_; (case hg => exact hnew); (case hw => rfl); (case hx => rfl)) | (refine wpListIn_load_item (t := 5) (nthI l k) wr.heap.size ?hg ?hw ?hx ?_; (case hg => exact hnew2); (case hw => rfl); (case hx => rfl)) | (gi_at_call 105; refine (callsIn_wide.2 (item_Of1 (nthI l k) key bk _ hkc)).mono ?_; rintro e W2 ⟨he, hb⟩; rw [e1] at he; subst he; have hb2 := hb1.trans (hb.mono hb1.size); have hnew2 := hnew.below hb; obtain ⟨fn, tmps, assign, body, hy, hR⟩ := hY _ _ rest W2 HE.out (hJ _ _ _ hw.out.1 (Steps1.of_below hb2)); dsimp only [encIt, It.cells] at hy))
        refine hR.mono ?_
        rintro e W3 (⟨rfl, hJ3, hk3⟩ | ⟨rfl, hJx3⟩)
        · gi_wp2
          go_roundw
          case rel => exact ⟨k + 1, by omega, by go_num, Lib.hid ⟨by rw [hnx.out, e1]; exact hJ3, Nat.le_trans hw.out.2.1 (Nat.le_trans hb2.size hk3.grows.size), fun j hj => (hk3.block j hj).trans ((hb2.block j (hlow.out j hj)).trans (hw.out.2.2 j hj))⟩⟩
          case measure => simp [intOf]; omega
        · gi_wp2
          refine bodyPost_ret (results_none rfl _ _ _) rfl ?_
          exact ⟨⟨_, rfl⟩, .inr ⟨_, _, rest, HE.out, hJx3⟩⟩
    · obtain rfl : k = l.length := by omega
      have HK := Lib.hid hw.out.1
      rw [List.take_length] at HK
      gi_wp2
      go_end0
      exact ⟨⟨_, rfl⟩, .inl HK.out⟩

theorem box_grown2 {W w1 : World} {B base : Nat} {t e : TypeId} {v u : Value} {n : Nat} {xs : List Value} {o : Obj} (hb : Boxed W B t u) (hB : B < base) (hown : W.ownsRow base e 4 v n xs) (hg : (W.alloc o).grownBy w1 v.ownBlock) : Boxed w1 B t u :=
  (hg.block B (by simp; have := hb.lt; omega) (fun e => by have := (hown.lt _ e.symm).1; omega)).trans ((Below.heap_alloc W o _ hb.lt).trans hb)

set_option maxRecDepth 100000 in
set_option maxHeartbeats 2000000 in
theorem item_Of (key : ByteArray) (A : Option Addr) (c : Nat) (l : List It) (w : World) (hs : SlI w A c l) (hsm : l.length ≤ 1099511627776) :
    Calls Try.prog 73 #[.string key, .slice A l.length c] w (RetI w (l.filter (ofI key))) := by
  obtain ⟨i0, hi, hz0, hz1, hz2⟩ := item_info
  refine calls_of_wp_marks Try.func73 rfl ?_
  simp only [Try.ntmps73, List.size_toArray, List.length_cons, List.length_nil, Nat.reduceAdd, Nat.reduceSub, Array.replicate_succ, Array.replicate_zero, List.push_toArray, List.append_toArray, List.nil_append, List.cons_append]
  have hfl := List.length_filter_le (ofI key) l
  go_upto_region 1 with (fail)
  refine name_world fun W0 hW0 => ?_
  have z0 : W0.heap.size = w.heap.size + 2 := by rw [← hW0]; simp
  have hB0 : Below w.heap.size w W0 := by rw [← hW0]; exact two_more _ _
  have bk0 : Boxed W0 w.heap.size 9 (.string key) := by rw [← hW0]; exact (Boxed.new w 9 (.string key)).alloc _
  have bx0 : Boxed W0 (w.heap.size + 1) 44 (.slice none 0 0) := by
    rw [← hW0]; have := Boxed.new (w.alloc (.cells #[.string key] 9)) 44 (.slice none 0 0); simpa using this
  clear hW0
  go_wp2_with (go_at_call 75; refine (item_those A l.length c _ _ ⟨_, _, _, rfl⟩).mono ?_; rintro e W5 ⟨rfl, hW5⟩)
  have b5 : Below W0.heap.size W0 W5 := by rw [← hW5]; exact two_more _ _
  have hb5 : Below w.heap.size w W5 := hB0.trans (b5.mono hB0.size)
  have z5 : W5.heap.size = w.heap.size + 4 := by rw [← hW5]; simp; omega
  have bk5 := box_below bk0 b5 bk0.lt
  have bx5 := box_below bx0 b5 bx0.lt
  have bl5 : Boxed W5 (w.heap.size + 2) 44 (.slice A l.length c) := by rw [← hW5, ← z0]; exact (Boxed.new W0 44 (.slice A l.length c)).alloc _
  have bs5 : Boxed W5 (w.heap.size + 2 + 1) 48 (.func (.func 105) #[] #[.pointer (some ⟨w.heap.size, 0, none⟩)]) := by
    rw [← hW5, ← z0]; have := Boxed.new (W0.alloc (.cells #[.slice A l.length c] 44)) 48 (.func (.func 105) #[] #[.pointer (some ⟨w.heap.size, 0, none⟩)]); simpa using this
  have hR : ∀ k, (k < w.heap.size ∨ k = w.heap.size + 2 ∨ k = w.heap.size + 2 + 1 ∨ k = w.heap.size) → k < w.heap.size + 4 ∧ k ≠ w.heap.size + 1 := fun k hk => by omega
  clear hW5 b5 bk0 bx0
  refine wp_rf2 (gf := 107) (lb := #[.pointer (some ⟨w.heap.size + 2, 0, none⟩), .pointer (some ⟨w.heap.size + 2 + 1, 0, none⟩)]) rfl (enters_of Try.func107 (by kernel_rfl) rfl) (encs := encIt) (T := fun _ => False)
    (R := fun k => k < w.heap.size ∨ k = w.heap.size + 2 ∨ k = w.heap.size + 2 + 1 ∨ k = w.heap.size) (xs := l.filter (ofI key))
    (fun o1 o2 => those_of_iter A c l _ _ _ _ key _ (hs.below (hb5.trans ((two_more o1 o2).mono (by omega)))) (fun hn b off e => hs.lt hn e) ((bl5.alloc _).alloc _) ((bs5.alloc _).alloc _) ((bk5.alloc _).alloc _) (by simp; omega) (by omega))
    (fun k e => e.elim) (fun k e => by have := hR k e; omega) (fun _ => rfl)
    (fun pre W => (∃ v, Boxed W (w.heap.size + 1) 44 v ∧ W.ownsRow (w.heap.size + 4) 40 4 v pre.length (ivI pre)) ∧ Below w.heap.size w W ∧ W5.heap.size ≤ W.heap.size)
    (fun _ _ _ => False)
    (fun _ _ h => h.2.2)
    (fun s A A' h ha => ⟨⟨h.1.choose, box_abide h.1.choose_spec.1 ha (fun h => h), owns_abide h.1.choose_spec.2 ha⟩, h.2.1.trans (ha.below (by omega) (fun k _ hk => hk)), Nat.le_trans h.2.2 ha.grows.size⟩)
    (fun _ _ _ _ h _ => h)
    ⟨⟨_, bx5, World.ownsRow_nil _ _ _ _⟩, hb5, Nat.le_refl _⟩
    (fun x a W => ∃ B, IBox W B x ∧ a = { tmps := #[.string key, .slice A l.length c, .pointer (some ⟨w.heap.size, 0, none⟩), undef, .pointer (some ⟨w.heap.size + 1, 0, none⟩), .pointer (some ⟨B, 0, none⟩), .slice A l.length c, .func (.func 105) #[] #[.pointer (some ⟨w.heap.size, 0, none⟩)], .func (.func 107) #[] #[.pointer (some ⟨w.heap.size + 2, 0, none⟩), .pointer (some ⟨w.heap.size + 2 + 1, 0, none⟩)], .agg x.cells, undef, undef, undef, undef, undef], defers := [] })
    (fun x a A A' h ha => ⟨h.choose, ha.row (fun h => h) h.choose_spec.1 rfl, h.choose_spec.2⟩) ?assign ?body ?done (fun _ _ _ _ _ _ _ _ h _ => h.elim)
  case assign =>
    intro ly pre x W K hI hK
    dsimp only [encIt, It.cells]
    gi_wp2
    exact hK _ _ ⟨_, IBox.new W x, rfl⟩ (one_more _)
  case body =>
    rintro ly pre x rest a' W hxs ⟨⟨v, hbx, hown⟩, hB, hz⟩ ⟨B, hx, rfl⟩
    have hlen : pre.length < (l.filter (ofI key)).length := by rw [hxs]; simp
    have cv := hbx.cell
    have hfn : ∀ k, Fence.wide.fn k := fun _ => trivial
    have hdp : Fence.wide.depth = none := rfl
    have hx1 := IBox.new W x
    have HB := Lib.hid (And.intro hbx (And.intro hown (And.intro hB hz)))
    clear hxs bk5 bx5 bl5 bs5
    gi_wp2_with (first | (refine wpListIn_load_item (t := 5) x B ?hg ?hw ?hx ?_; (case hg => exact hx); (case hw => rfl); (case hx => rfl)) | (gi_at_builtin; refine wpListIn_append_own_at _ rfl (.tmp 10) (.tmp 12) _ rfl (w.heap.size + 4) 40 i0 _ 4 40 Try.underlying44 hi hz0 hz1 hz2 rfl (by omega) v pre.length (ivI pre) rfl (hown.alloc _) ⟨W.heap.size, 0, none⟩ 1 1 x.cells.toList rfl rfl ?hn (ivI_one [x]) ?h1 ?h2 ?h3 ?_; (case hn => exact item_news W x); (case h1 => simp only [maxLen]; omega); (case h2 => omega); (case h3 => simp; omega); intro v1 w1 hown1 hg1 hnil1 hat1; have bx1 := box_grown2 hbx (by omega) hown hg1; have cv1 := bx1.cell; have fv1 := bx1.frozen; obtain ⟨A1, n1, k1, rfl⟩ := own_slice hown1))
    obtain ⟨hbx, hown, hB, hz⟩ := HB.out
    have zW := hB.size
    refine ⟨((BodyKeeps.of_below (one_more (w := W) _) (fun k hk => by have := hR k hk; omega)).trans (BodyKeeps.grown (hown.alloc _) hg1 (fun k hk => by have := hR k hk; simp; omega))).trans (BodyKeeps.setCell w1 (p := ⟨w.heap.size + 1, 0, none⟩) (fun hk => (hR _ hk).2 rfl) _), ⟨_, bx1.set _, ?_⟩, ?_, ?_⟩
    · rw [List.length_append, ivI_append]
      exact owns_set hown1 (by show w.heap.size + 1 < w.heap.size + 4; omega) _
    · exact ((hB.alloc (by have := hB.size; exact this) _).grown hg1 (by have := hB.size; simp; omega) (fun k hk => by have := (hown.lt k hk).1; omega)).setCell (p := ⟨w.heap.size + 1, 0, none⟩) (Nat.le_succ _) _
    · exact Nat.le_trans hz (Nat.le_trans (one_more (w := W) _).size (Nat.le_trans hg1.size (Grows.setCell w1 _ _).size))
  case done =>
    rintro D W hD ⟨⟨v, hbx, hown⟩, hB, hz⟩ hK
    obtain ⟨A', c', rfl, hs', hm, hf⟩ := SlI.of_owns hown
    have cv := hbx.cell
    have fv := hbx.frozen
    go_wp2
    have hw2 := heap_setCell_at W (w.heap.size + 1) 0 (.slice A' (l.filter (ofI key)).length c') _ _ _ hbx
    have hne : w.heap.size + 1 ≠ D := by omega
    have cD : ((W.setCell ⟨w.heap.size + 1, 0, none⟩ (.slice A' (l.filter (ofI key)).length c')).putObj D (.deferred none)).cell? ⟨w.heap.size + 1, 0, none⟩ = some (.slice A' (l.filter (ofI key)).length c') := (box_putObj (hbx.set _) hne _).cell
    have hK2 : (W.setCell ⟨w.heap.size + 1, 0, none⟩ (.slice A' (l.filter (ofI key)).length c')).heap[D]? = some (.deferred (some [])) := (Below.heap_setCell W _ _ D (by show D ≠ w.heap.size + 1; omega)).trans hK
    refine leave_mark hK2 (v := .slice A' (l.filter (ofI key)).length c') (by simp [results, Try.f73, go_sem, cD]) ⟨A', c', rfl, ?_, hm, (hB.setCell (p := ⟨w.heap.size + 1, 0, none⟩) (Nat.le_succ _) _).trans (below_mark (by omega)), fun b off e => by have := hf b off e; omega⟩
    obtain ⟨A2, c2, e2, hs2, -, -⟩ := SlI.of_owns (owns_putObj (owns_set hown (p := ⟨w.heap.size + 1, 0, none⟩) (by show w.heap.size + 1 < w.heap.size + 4; omega) (.slice A' (l.filter (ofI key)).length c')) hK2 rfl (.deferred none))
    cases e2
    exact hs2
end Go.Proofs.Ytbjgfcempfpfcaa
