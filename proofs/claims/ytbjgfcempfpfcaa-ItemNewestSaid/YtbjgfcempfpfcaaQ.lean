/- Contract: rect.Notify. -/
import Derived.Test.YtbjgfcempfpfcaaP
namespace Go.Proofs.Ytbjgfcempfpfcaa
open Go.RowKit Go.Shelf

attribute [local go_sem] Oper.semAt_some

/-- What holds where rect.Notify jumps to its end. -/
def NJ (w : World) (x : View) (a : Act) (W : World) : Prop := ∃ t0 t1 t3 t5 t6 t7 t8 t9 t10 t11 t12 t13 t14 t15 t16 t17 : Value, ∃ (E1 : Option Addr) (f1 : Nat) (E2 : Option Addr) (f2 : Nat), a = { tmps := #[t0, t1, .pointer (some ⟨w.heap.size, 0, none⟩), t3, .pointer (some ⟨w.heap.size + 1, 0, none⟩), t5, t6, t7, t8, t9, t10, t11, t12, t13, t14, t15, t16, t17], defers := [] } ∧
  Two w W w.heap.size (w.heap.size + 1) x View.zero E1 f1 E2 f2 none 0 none 0 ∧ RepV W x E1 f1 E2 f2 ∧ Hid ((∀ b off, E1 = some ⟨b, off, none⟩ → w.heap.size + 1 < b) ∧ ∀ b off, E2 = some ⟨b, off, none⟩ → w.heap.size + 1 < b)

set_option maxRecDepth 100000 in
set_option maxHeartbeats 1000000 in
theorem rect_Notify_bad (x : View) (A1 A2 : Option Addr) (c1 c2 : Nat) (w : World) (h : RepV w x A1 c1 A2 c2) (A3 : Option Addr) (n3 c3 : Nat) (hr : rightV x = false) :
    Calls Try.prog 23 #[x.v A1 c1 A2 c2, .slice A3 n3 c3] w (RetV w x) := by
  unfold View.v
  refine calls_of_wp_marks Try.func23 rfl ?_
  simp only [Try.ntmps23, List.size_toArray, List.length_cons, List.length_nil, Nat.reduceAdd, Nat.reduceSub, Array.replicate_succ, Array.replicate_zero, List.push_toArray, List.append_toArray, List.nil_append, List.cons_append]
  go_upto_region 1 with (fail)
  refine name_world fun W0 hW0 => ?_
  have hT := two_start hW0
  clear hW0
  refine wp_scope_jumps (rest := ?rest) 0 (NJ w x) (fun _ _ => 0) ?hf ?first ?pass
  case hf => exact rfl
  case pass =>
    rintro a wr ⟨t0, t1, t3, t5, t6, t7, t8, t9, t10, t11, t12, t13, t14, t15, t16, t17, E1, f1, E2, f2, rfl, hT, hR, HG⟩
    refine wp_seq (wp_skip ?_)
    go_upto_region 6 with (fail)
    refine wp_region_lit ?_
    (refine wpList_load_view (t := 2) x E1 E2 f1 f2 w.heap.size ?hg ?hw ?hx ?_; (case hg => exact hT.box); (case hw => rfl); (case hx => rfl))
    (refine wpList_store_row rfl 25 (.tmp 4) (.tmp 17) rfl (w.heap.size + 1) (x.cells E1 f1 E2 f2) rfl rfl 25 (View.zero.cells none 0 none 0) hT.res (view_size _ _ _ _ _) rfl (View.oneCell _ _ _ _ _) ?_)
    go_wp2
    refine leave_plain (v := .agg (x.cells E1 f1 E2 f2)) (results_cell_row rfl _ _ (w.heap.size + 1) 25 (x.cells E1 f1 E2 f2) (0, 0) _ rfl (hT.res.setRow x E1 E2 f1 f2) Try.underlying25 rfl (view_size _ _ _ _ _)) ?_
    exact ⟨E1, f1, E2, f2, rfl, hR.row (w.heap.size + 1) _ (fun b off e => by have := HG.out.1 b off e; omega) (fun b off e => by have := HG.out.2 b off e; omega), below_setRow hT.b (Nat.le_succ _) _, fun b off e => by have := HG.out.1 b off e; omega, fun b off e => by have := HG.out.2 b off e; omega⟩
  case first =>
    go_upto_region 1 with (fail)
    refine wp_region_lit ?_
    (refine wpList_load_view (t := 2) x A1 A2 c1 c2 w.heap.size ?hg ?hw ?hx ?_; (case hg => exact hT.box); (case hw => rfl); (case hx => rfl))
    go_upto_region 2 with (first | (go_at_call 56; refine (view_Own x A1 A2 c1 c2 _ ⟨h.base.below hT.b, h.list.below hT.b⟩).mono ?_; rintro e W1 ⟨E1, f1, E2, f2, rfl, hr1, hb1, hf1, hf2⟩; have hT1 := hT.below (Nat.le_refl _) (Nat.le_succ _) hb1) | (refine wpList_store_row rfl 25 (.tmp 2) (.tmp 7) rfl w.heap.size (x.cells E1 f1 E2 f2) rfl rfl 25 (x.cells A1 c1 A2 c2) hT1.box (view_size _ _ _ _ _) rfl (View.oneCell _ _ _ _ _) ?_))
    refine name_world fun W2 hW2 => ?_
    have z1 := hb1.size
    have z2 := hT.res.lt
    have hT2 : Two w W2 w.heap.size (w.heap.size + 1) x View.zero E1 f1 E2 f2 none 0 none 0 := by rw [← hW2]; exact hT1.setRow (Nat.le_refl _) (Nat.succ_ne_self _)
    have hR2 : RepV W2 x E1 f1 E2 f2 := by rw [← hW2]; exact hr1.row _ _ (fun b off e => by have := hf1 b off e; omega) (fun b off e => by have := hf2 b off e; omega)
    have g1 : ∀ b off, E1 = some ⟨b, off, none⟩ → w.heap.size + 1 < b := fun b off e => by have := hf1 b off e; omega
    have g2 : ∀ b off, E2 = some ⟨b, off, none⟩ → w.heap.size + 1 < b := fun b off e => by have := hf2 b off e; omega
    have HG := Lib.hid (And.intro g1 g2)
    clear hW2 hT1 hT hb1 hr1 hf1 hf2 g1 g2 h
    go_wp2_with (first | (refine wpList_load_view (t := 2) x E1 E2 f1 f2 w.heap.size ?hg ?hw ?hx ?_; (case hg => exact hT2.box); (case hw => rfl); (case hx => rfl)) | (go_at_call 43; refine (view_Right x E1 E2 f1 f2 _ hR2.base hR2.list).mono ?_; rintro e W3 ⟨rfl, hb3⟩; have hT3 := hT2.below (Nat.le_refl _) (Nat.le_succ _) hb3; have hR3 := hR2.below hb3) | (refine wp_goto ?_))
    exact ⟨rfl, _, _, _, _, _, _, _, _, _, _, _, _, _, _, _, _, E1, f1, E2, f2, rfl, hT3, hR3, HG⟩

theorem right_withPred {x : View} (h : rightV x = true) {n : Int} (hn : other x.id n = true) : rightV (x.withPred n) = true := by
  simp only [rightV, headOk, Bool.and_eq_true] at h ⊢
  exact ⟨⟨⟨h.1.1.1, hn⟩, h.1.2⟩, h.2⟩
theorem right_told {x : View} (h : rightV x = true) (n : Int) : rightV (toldV x n) = true := by
  unfold toldV
  split
  · rename_i hb
    simp only [betterV, Bool.and_eq_true] at hb
    exact right_withPred h (by simp only [other, hb.2.1, hb.2.2.1]; simp)
  · exact h
theorem step_told {p : View × List Int} (h : rightV p.1 = true) (n : Int) : (stepP p n).1 = toldV p.1 n := by
  unfold stepP toldV
  rw [bt_of_right h]
  split <;> rfl
theorem acc_told (l : List Int) : ∀ p : View × List Int, rightV p.1 = true → (l.foldl stepP p).1 = l.foldl toldV p.1 := by
  induction l with
  | nil => intro p _; rfl
  | cons n l ih =>
    intro p h
    rw [List.foldl_cons, List.foldl_cons, ih _ (by rw [step_told h]; exact right_told h n), step_told h]
theorem acc_fold (x : View) (l : List Int) : ∀ p : View × List Int, p.2.foldl View.withPred x = p.1 → (l.foldl stepP p).2.foldl View.withPred x = (l.foldl stepP p).1 := by
  induction l with
  | nil => intro p h; exact h
  | cons n l ih =>
    intro p h
    rw [List.foldl_cons]
    refine ih _ ?_
    unfold stepP
    split
    · rw [List.foldl_append, h]; rfl
    · exact h
theorem notify_acc {x : View} (h : rightV x = true) (l : List Int) : (accP x l).2.foldl View.withPred x = notifyV x l := by
  rw [accP, acc_fold x l (x, []) rfl, acc_told l (x, []) h]; rfl
theorem fold_same (l : List Int) (x : View) : (l.foldl View.withPred x).base = x.base ∧ (l.foldl View.withPred x).list = x.list := by
  induction l generalizing x with
  | nil => exact ⟨rfl, rfl⟩
  | cons n l ih => exact ih (x.withPred n)
theorem notify_bad {x : View} (h : rightV x = false) (l : List Int) : notifyV x l = x := by
  induction l with
  | nil => rfl
  | cons n l ih =>
    have : toldV x n = x := told_no (by rw [betterV, h]; rfl)
    rw [notifyV, List.foldl_cons, this]; exact ih

theorem Sl.heap2 {w w' : World} {A : Option Addr} {c : Nat} {xs : List Int} (h : Sl w A c xs) (hs : w.heap.size ≤ w'.heap.size) (hk : ∀ b off, b < w.heap.size → A = some ⟨b, off, none⟩ → w'.heap[b]? = w.heap[b]?) : Sl w' A c xs :=
  ⟨h.cap, h.small, h.nil_, fun hn => by
    obtain ⟨b, off, e, hlt, hc⟩ := h.at_ hn
    exact ⟨b, off, e, by omega, fun k hkk => (World.cell?_of_block (a := ⟨b, off + k, none⟩) (hk b off hlt e)).trans (hc k hkk)⟩⟩
theorem VBox.abide {T : Nat → Prop} {L : Nat} {A A' : World} {B : Nat} {x : View} {A1 A2 : Option Addr} {c1 c2 : Nat} (h : VBox A B x A1 c1 A2 c2) (ha : Abide T L A A') (hT : ¬ T B) : VBox A' B x A1 c1 A2 c2 := ha.row hT h rfl
theorem foldl_snoc (x : View) (l : List Int) (n : Int) : (l ++ [n]).foldl View.withPred x = (l.foldl View.withPred x).withPred n := by rw [List.foldl_append]; rfl

set_option maxRecDepth 100000 in
set_option maxHeartbeats 1000000 in
theorem rect_Notify_good (x : View) (A1 A2 : Option Addr) (c1 c2 : Nat) (w : World) (h : RepV w x A1 c1 A2 c2) (A3 : Option Addr) (c3 : Nat) (l : List Int) (hs : Sl w A3 c3 l) (hr : rightV x = true) :
    Calls Try.prog 23 #[x.v A1 c1 A2 c2, .slice A3 l.length c3] w (RetV w (notifyV x l)) := by
  unfold View.v
  refine calls_of_wp_marks Try.func23 rfl ?_
  simp only [Try.ntmps23, List.size_toArray, List.length_cons, List.length_nil, Nat.reduceAdd, Nat.reduceSub, Array.replicate_succ, Array.replicate_zero, List.push_toArray, List.append_toArray, List.nil_append, List.cons_append]
  go_upto_region 1 with (fail)
  refine name_world fun W0 hW0 => ?_
  have hT := two_start hW0
  clear hW0
  refine wp_scope_jumps (rest := ?rest) 0 (fun _ _ => False) (fun _ _ => 0) ?hf ?first (fun _ _ h => h.elim)
  case hf => exact rfl
  go_upto_region 1 with (fail)
  refine wp_region_lit ?_
  (refine wpList_load_view (t := 2) x A1 A2 c1 c2 w.heap.size ?hg ?hw ?hx ?_; (case hg => exact hT.box); (case hw => rfl); (case hx => rfl))
  go_upto_region 2 with (first | (go_at_call 56; refine (view_Own x A1 A2 c1 c2 _ ⟨h.base.below hT.b, h.list.below hT.b⟩).mono ?_; rintro e W1 ⟨E1, f1, E2, f2, rfl, hr1, hb1, hf1, hf2⟩; have hT1 := hT.below (Nat.le_refl _) (Nat.le_succ _) hb1) | (refine wpList_store_row rfl 25 (.tmp 2) (.tmp 7) rfl w.heap.size (x.cells E1 f1 E2 f2) rfl rfl 25 (x.cells A1 c1 A2 c2) hT1.box (view_size _ _ _ _ _) rfl (View.oneCell _ _ _ _ _) ?_))
  refine name_world fun W2 hW2 => ?_
  have z1 := hb1.size
  have z2 := hT.res.lt
  have hT2 : Two w W2 w.heap.size (w.heap.size + 1) x View.zero E1 f1 E2 f2 none 0 none 0 := by rw [← hW2]; exact hT1.setRow (Nat.le_refl _) (Nat.succ_ne_self _)
  have hR2 : RepV W2 x E1 f1 E2 f2 := by rw [← hW2]; exact hr1.row _ _ (fun b off e => by have := hf1 b off e; omega) (fun b off e => by have := hf2 b off e; omega)
  have g1 : ∀ b off, E1 = some ⟨b, off, none⟩ → w.heap.size + 1 < b := fun b off e => by have := hf1 b off e; omega
  have g2 : ∀ b off, E2 = some ⟨b, off, none⟩ → w.heap.size + 1 < b := fun b off e => by have := hf2 b off e; omega
  have HG := Lib.hid (And.intro g1 g2)
  clear hW2 hT1 hT hb1 hr1 hf1 hf2 g1 g2 h
  go_wp2_with (first | (refine wpList_load_view (t := 2) x E1 E2 f1 f2 w.heap.size ?hg ?hw ?hx ?_; (case hg => exact hT2.box); (case hw => rfl); (case hx => rfl)) | (go_at_call 43; refine (view_Right x E1 E2 f1 f2 _ hR2.base hR2.list).mono ?_; rintro e W3 ⟨rfl, hb3⟩; have hT3 := hT2.below (Nat.le_refl _) (Nat.le_succ _) hb3; have hR3 := hR2.below hb3) | (refine wpList_load_view (t := 2) x E1 E2 f1 f2 w.heap.size ?hg ?hw ?hx ?_; (case hg => exact hT3.box); (case hw => rfl); (case hx => rfl)) | (go_at_call 62; refine (rect_improved x E1 E2 f1 f2 _ _ _ _).mono ?_; rintro e w' ⟨rfl, rfl⟩))
  obtain ⟨W5, hW5⟩ : ∃ W5, (W3.alloc (.cells (x.cells E1 f1 E2 f2) 25)).alloc (.cells #[.slice A3 l.length c3] 22) = W5 := ⟨_, rfl⟩
  have z3 := hT3.box.lt
  have z4 := hT3.res.lt
  have z5 : W5.heap.size = W3.heap.size + 1 + 1 := by rw [← hW5]; simp
  have hb5 : Below W3.heap.size W3 W5 := by rw [← hW5]; exact ((Below.refl _ W3).alloc (Nat.le_refl _) _).alloc (by simp) _
  have bv0 : VBox W5 W3.heap.size x E1 f1 E2 f2 := by rw [← hW5]; exact (VBox.new W3 x E1 f1 E2 f2).alloc _
  have bl0 : Boxed W5 (W3.heap.size + 1) 22 (.slice A3 l.length c3) := by rw [← hW5]; have := Boxed.new (W3.alloc (.cells (x.cells E1 f1 E2 f2) 25)) 22 (.slice A3 l.length c3); simpa using this
  have hB5 : Below w.heap.size w W5 := hT3.b.trans (hb5.mono hT3.b.size)
  have hT5 := hT3.below (Nat.le_refl _) (Nat.le_succ _) hb5
  rw [hW5]
  have HNA := Lib.hid (notify_acc hr l)
  clear hW5 hT2 hR2
  refine wp_rf (gf := 100) (lb := #[.pointer (some ⟨W3.heap.size + 1, 0, none⟩), .pointer (some ⟨W3.heap.size, 0, none⟩)]) rfl (enters_of Try.func100 (by kernel_rfl) rfl)
    (encs := encI) (T := fun k => k = W3.heap.size) (R := fun k => k < w.heap.size ∨ k = W3.heap.size + 1 ∨ k = W3.heap.size) (xs := (accP x l).2)
    (fun o1 o2 => improved_iter x E1 E2 f1 f2 A3 c3 l _ _ _ _ (hs.below (hB5.trans ((((Below.refl _ W5).alloc (by omega) o1)).alloc (by simp; omega) o2))) (fun hn b off e => hs.lt hn e) ((bl0.alloc _).alloc _) ((bv0.alloc _).alloc _) (by omega))
    (fun k e => by omega) (fun k e => by omega) (fun _ => rfl)
    (fun pre W => VBox W w.heap.size (pre.foldl View.withPred x) E1 f1 E2 f2 ∧ (∀ b, b < W3.heap.size → b ≠ w.heap.size → W.heap[b]? = W3.heap[b]?) ∧ Below w.heap.size w W ∧ W5.heap.size ≤ W.heap.size)
    (fun _ _ _ => False)
    (fun _ _ h => h.2.2.2)
    (fun s A A' h ha => ⟨h.1.abide ha (by omega), fun b hb hne => (ha.old b (by omega) (by omega)).trans (h.2.1 b hb hne), h.2.2.1.trans (ha.below (by omega) (fun k hk => by omega)), Nat.le_trans h.2.2.2 ha.grows.size⟩)
    (fun _ _ _ _ h _ => h)
    ⟨hT5.box, fun b hb _ => hb5.block b hb, hB5, Nat.le_refl _⟩
    (fun n => { tmps := #[.agg (x.cells A1 c1 A2 c2), .slice A3 l.length c3, .pointer (some ⟨w.heap.size, 0, none⟩), undef, .pointer (some ⟨w.heap.size + 1, 0, none⟩), .int .i64 n, .agg (x.cells A1 c1 A2 c2), x.v E1 f1 E2 f2, .agg (x.cells E1 f1 E2 f2), .bool true, .bool false, .agg (x.cells E1 f1 E2 f2), .slice A3 l.length c3,
      .func (.func 100) #[] #[.pointer (some ⟨W3.heap.size + 1, 0, none⟩), .pointer (some ⟨W3.heap.size, 0, none⟩)], .int .i64 n, undef, undef, undef], defers := [] }) ?assign ?body ?done (fun _ _ _ _ _ _ _ _ h _ => h.elim)
  case assign =>
    intro ly p W K hK
    gi_wp2
    exact hK
  case body =>
    rintro ly pre p rest W hxs ⟨hv, hk, hB, hz⟩
    have p3 := hv.cells.2.2.2.1
    have p4 := hv.frozen
    have HV := Lib.hid hv
    have HK := Lib.hid hk
    clear hxs hb5 bv0 bl0 hs hB5 hT5 hT3 hR3 hv hk
    have hfn : ∀ k, Fence.wide.fn k := fun _ => trivial
    have hdp : Fence.wide.depth = none := rfl
    gi_wp2
    exact ⟨BodyKeeps.setCell W (p := ⟨w.heap.size, 3, none⟩) (by show ¬ (w.heap.size < _ ∨ w.heap.size = _ ∨ w.heap.size = _); omega) _, by rw [foldl_snoc]; exact HV.out.setPred p, fun b hb hne => (Below.heap_setCell W ⟨w.heap.size, 3, none⟩ _ b hne).trans (HK.out b hb hne), hB.setCell (p := ⟨w.heap.size, 3, none⟩) (Nat.le_refl _) _, Nat.le_trans hz (Grows.setCell W _ _).size⟩
  case done =>
    rintro D W hD ⟨hv, hk, hB, hz⟩ hK
    rw [HNA.out] at hv
    have HK := Lib.hid hk
    have HV := Lib.hid hv
    clear hb5 bv0 bl0 hs hB5 hT5 hv hk
    go_upto_region 6 with (refine wp_label ?_)
    have hres := (HK.out (w.heap.size + 1) (by omega) (by omega)).trans hT3.res
    have zD : w.heap.size + 1 < D := by omega
    have hK2 : (W.setRow (w.heap.size + 1) ((notifyV x l).cells E1 f1 E2 f2)).heap[D]? = some (.deferred (some [])) := (heap_setRow W _ _ D (by omega)).trans hK
    have hcell : ((W.setRow (w.heap.size + 1) ((notifyV x l).cells E1 f1 E2 f2)).putObj D (.deferred none)).heap[w.heap.size + 1]? = some (.cells ((notifyV x l).cells E1 f1 E2 f2) 25 (0, 0)) := (World.putObj_heap_other (by omega)).trans (setRow_heap W _ _ _ _ _ hres)
    refine wp_region_lit ?_
    (refine wpList_load_view (t := 2) (notifyV x l) E1 E2 f1 f2 w.heap.size ?hg ?hw ?hx ?_; (case hg => exact HV.out); (case hw => rfl); (case hx => rfl))
    (refine wpList_store_row rfl 25 (.tmp 4) (.tmp 17) rfl (w.heap.size + 1) ((notifyV x l).cells E1 f1 E2 f2) rfl rfl 25 (View.zero.cells none 0 none 0) hres (view_size _ _ _ _ _) rfl (View.oneCell _ _ _ _ _) ?_)
    go_wp2
    have hsz : W3.heap.size ≤ ((W.setRow (w.heap.size + 1) ((notifyV x l).cells E1 f1 E2 f2)).putObj D (.deferred none)).heap.size := by rw [show ((W.setRow (w.heap.size + 1) ((notifyV x l).cells E1 f1 E2 f2)).putObj D (.deferred none)).heap.size = W.heap.size by simp [size_setRow]]; omega
    have hfr : ∀ b : Nat, b < W3.heap.size → w.heap.size + 1 < b → ((W.setRow (w.heap.size + 1) ((notifyV x l).cells E1 f1 E2 f2)).putObj D (.deferred none)).heap[b]? = W3.heap[b]? := fun b hb hb2 => (World.putObj_heap_other (by omega : b ≠ D)).trans ((heap_setRow W _ _ b (by omega)).trans (HK.out b hb (by omega)))
    refine leave_mark hK2 (v := .agg ((notifyV x l).cells E1 f1 E2 f2)) (results_cell_row rfl _ _ (w.heap.size + 1) 25 ((notifyV x l).cells E1 f1 E2 f2) (0, 0) _ rfl hcell Try.underlying25 rfl (view_size _ _ _ _ _)) ?_
    refine ⟨E1, f1, E2, f2, rfl, ⟨?_, ?_⟩, (below_setRow hB (Nat.le_succ _) _).trans (below_mark (by omega)), fun b off e => by have := HG.out.1 b off e; omega, fun b off e => by have := HG.out.2 b off e; omega⟩
    · rw [(notify_same x l).1]; exact hR3.base.heap2 hsz (fun b off hb e => hfr b hb (HG.out.1 b off e))
    · rw [(notify_same x l).2]; exact hR3.list.heap2 hsz (fun b off hb e => hfr b hb (HG.out.2 b off e))

theorem rect_Notify (x : View) (A1 A2 : Option Addr) (c1 c2 : Nat) (w : World) (h : RepV w x A1 c1 A2 c2) (A3 : Option Addr) (c3 : Nat) (l : List Int) (hs : Sl w A3 c3 l) :
    Calls Try.prog 23 #[x.v A1 c1 A2 c2, .slice A3 l.length c3] w (RetV w (notifyV x l)) := by
  cases hr : rightV x with
  | false => rw [notify_bad hr]; exact rect_Notify_bad x A1 A2 c1 c2 w h A3 _ c3 hr
  | true => exact rect_Notify_good x A1 A2 c1 c2 w h A3 c3 l hs hr
end Go.Proofs.Ytbjgfcempfpfcaa
