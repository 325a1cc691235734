/- The iterator list.sides, and list.Right over it. -/
import Derived.Test.YtbjgfcempfpfcaaB
import Derived.Test.YtbjgfcempfpfcaaR
namespace Go.Proofs.Ytbjgfcempfpfcaa
open Go.RowKit Go.Shelf

attribute [local go_sem] Oper.semAt_some

abbrev encP (p : Int × Int) : Array Value := #[.int .i64 p.1, .int .i64 p.2]

set_option maxHeartbeats 400000 in
theorem list_sides (x : Int) (A : Option Addr) (n c : Nat) (w : World) :
    Calls Try.prog 110 #[.int .i64 x, .slice A n c] w fun e w' => e = .returned (.func (.func 119) #[] #[.pointer (some ⟨w.heap.size + 1, 0, none⟩), .pointer (some ⟨w.heap.size, 0, none⟩)]) ∧
      (w.alloc (.cells #[.int .i64 x] 3)).alloc (.cells #[.slice A n c] 22) = w' := by
  go_enter Try.func110, Try.ntmps110
  go_wp2
  go_ret
  exact ⟨rfl, rfl⟩

set_option maxRecDepth 100000 in
set_option maxHeartbeats 2000000 in
/-- The iterator's contract: bl: the box of the row, bx: the box of x (its own state). -/
theorem sides_iter (x : Int) (A : Option Addr) (c : Nat) (l : List Int) (bl bx n0 : Nat) (W : World) (hs : Sl W A c l) (hA : 0 < l.length → ∀ b off, A = some ⟨b, off, none⟩ → b < n0)
    (hbl : Boxed W bl 22 (.slice A l.length c)) (hbx : Boxed W bx 3 (.int .i64 x)) (hnx : n0 ≤ bx) :
    IterAt Try.prog 119 #[.pointer (some ⟨bl, 0, none⟩), .pointer (some ⟨bx, 0, none⟩)] encP (fun k => k = bx) (fun k => k < n0 ∨ k = bl ∨ k = bx) (upto (side x l) l.length) W := by
  intro ly J Jx hJ hJx hY h0
  refine callsIn_of_wp Try.func119 rfl trivial ?_ rfl
  simp only [Try.ntmps119, List.size_toArray, List.length_cons, List.length_nil, Nat.reduceAdd, Nat.reduceSub, Array.replicate_succ, Array.replicate_zero, List.push_toArray, List.append_toArray, List.nil_append, List.cons_append]
  have c1 := hbl.cell
  have c2 := hbx.cell
  have hcap := hs.cap
  have hsm := hs.small
  gi_wp2
  gi_loopw [8] (fun i wr => ∃ k : Nat, k ≤ l.length ∧ i = .int .i64 k ∧ Hid (J (upto (side x l) k) wr ∧ Boxed wr bx 3 (.int .i64 (before x l k)) ∧ (∀ j, j < n0 → wr.heap[j]? = W.heap[j]?)))
    (fun i _ => l.length - (intOf i).toNat)
  case atStart => exact ⟨0, Nat.zero_le _, rfl, h0, hbx, fun _ _ => rfl⟩
  case round =>
    obtain ⟨k, hk, rfl, hw⟩ := hrel
    by_cases hlt2 : k < l.length
    · obtain ⟨b, off, rfl, _, hcell⟩ := hs.at_ (by omega)
      obtain ⟨rest, he⟩ := upto_split (side x l) hlt2
      have hcx : wr.cell? ⟨b, off + k, none⟩ = some (.int .i64 (nth l k)) := (World.cell?_of_block (a := ⟨b, off + k, none⟩) (hw.out.2.2 b (hA (by omega) b off rfl))).trans (hcell k hlt2)
      have hcb := hw.out.2.1.cell
      obtain ⟨fn, tmps, assign, body, hy, hR⟩ := hY _ _ rest wr he hw.out.1
      dsimp only [encP, side] at hy
      have HE := Lib.hid he
      clear hcell he
      gi_wp2
      refine ⟨rfl, hR.mono ?_⟩
      rintro e W3 (⟨rfl, hJ3, hk3⟩ | ⟨rfl, hJx3⟩)
      · have hb3 : Boxed W3 bx 3 (.int .i64 (before x l k)) := (hk3.block bx (.inr (.inr rfl))).trans hw.out.2.1
        have hc3 := hb3.cell
        have hf3 := hb3.frozen
        gi_wp2
        go_roundw
        case rel => exact ⟨k + 1, by omega, by go_num, by rw [upto_succ]; exact hJ _ _ _ hJ3 (Steps1.setCell (T := fun k => k = bx) W3 (p := ⟨bx, 0, none⟩) rfl _), by rw [before_succ]; exact hb3.set _, fun j hj => (Below.heap_setCell _ _ _ _ (by show j ≠ bx; omega)).trans ((hk3.block j (.inl hj)).trans (hw.out.2.2 j hj))⟩
        case measure => simp [intOf]; omega
      · gi_wp2
        refine bodyPost_ret (results_none rfl _ _ _) rfl ?_
        exact ⟨⟨_, rfl⟩, .inr ⟨_, _, rest, HE.out, hJx3⟩⟩
    · obtain rfl : k = l.length := by omega
      gi_wp2
      go_end0
      exact ⟨⟨_, rfl⟩, .inl hw.out.1⟩

set_option maxRecDepth 100000 in
set_option maxHeartbeats 2000000 in
theorem list_Right (x : Int) (A : Option Addr) (c : Nat) (l : List Int) (w : World) (hs : Sl w A c l) :
    Calls Try.prog 80 #[.int .i64 x, .slice A l.length c] w fun e w' => e = .returned (.bool (rightL x l)) ∧ Below w.heap.size w w' := by
  have hcap := hs.cap
  have hsm := hs.small
  refine calls_of_wp_marks Try.func80 rfl ?_
  simp only [Try.ntmps80, List.size_toArray, List.length_cons, List.length_nil, Nat.reduceAdd, Nat.reduceSub, Array.replicate_succ, Array.replicate_zero, List.push_toArray, List.append_toArray, List.nil_append, List.cons_append]
  go_wp2_with (go_at_call 110; refine (list_sides _ _ _ _ _).mono ?_; rintro e w' ⟨rfl, rfl⟩)
  obtain ⟨W4, hW4⟩ : ∃ W4, (((w.alloc (.cells #[.int .i64 x] 3)).alloc (.cells #[.bool false] 4)).alloc (.cells #[.int .i64 x] 3)).alloc (.cells #[.slice A l.length c] 22) = W4 := ⟨_, rfl⟩
  have z4 : W4.heap.size = w.heap.size + 1 + 1 + 1 + 1 := by rw [← hW4]; simp
  have bx0 : Boxed W4 w.heap.size 3 (.int .i64 x) := by rw [← hW4]; exact (((Boxed.new w _ _).alloc _).alloc _).alloc _
  have br0 : Boxed W4 (w.heap.size + 1) 4 (.bool false) := by rw [← hW4]; have := ((Boxed.new (w.alloc (.cells #[.int .i64 x] 3)) 4 (.bool false)).alloc (.cells #[.int .i64 x] 3)).alloc (.cells #[.slice A l.length c] 22); simpa using this
  have bs0 : Boxed W4 (w.heap.size + 1 + 1) 3 (.int .i64 x) := by rw [← hW4]; have := (Boxed.new ((w.alloc (.cells #[.int .i64 x] 3)).alloc (.cells #[.bool false] 4)) 3 (.int .i64 x)).alloc (.cells #[.slice A l.length c] 22); simpa using this
  have bl0 : Boxed W4 (w.heap.size + 1 + 1 + 1) 22 (.slice A l.length c) := by rw [← hW4]; have := Boxed.new (((w.alloc (.cells #[.int .i64 x] 3)).alloc (.cells #[.bool false] 4)).alloc (.cells #[.int .i64 x] 3)) 22 (.slice A l.length c); simpa using this
  have hb4 : Below w.heap.size w W4 := by rw [← hW4]; exact ((((Below.refl _ w).alloc (Nat.le_refl _) _).alloc (by simp) _).alloc (by simp; omega) _).alloc (by simp; omega) _
  rw [hW4]
  refine wp_rf (gf := 119) (lb := #[.pointer (some ⟨w.heap.size + 1 + 1 + 1, 0, none⟩), .pointer (some ⟨w.heap.size + 1 + 1, 0, none⟩)]) rfl (enters_of Try.func119 (by kernel_rfl) rfl)
    (encs := encP) (T := fun k => k = w.heap.size + 1 + 1) (R := fun k => k < w.heap.size ∨ k = w.heap.size + 1 + 1 + 1 ∨ k = w.heap.size + 1 + 1) (xs := upto (side x l) l.length)
    (fun o1 o2 => sides_iter x A c l _ _ _ _ (hs.below (hb4.trans ((((Below.refl _ W4).alloc (by omega) o1)).alloc (by simp; omega) o2))) (fun hn b off e => hs.lt hn e) ((bl0.alloc _).alloc _) ((bs0.alloc _).alloc _) (by omega))
    (fun k e => by omega) (fun k e => by omega) (fun _ => rfl)
    (fun pre W => (allTo pre.length (okAt x l) = true ∧ Boxed W w.heap.size 3 (.int .i64 x) ∧ Boxed W (w.heap.size + 1) 4 (.bool false)) ∧ Below w.heap.size w W ∧ W4.heap.size ≤ W.heap.size)
    (fun c _ W => (c = .ret ∧ rightL x l = false ∧ Boxed W (w.heap.size + 1) 4 (.bool false)) ∧ Below w.heap.size w W ∧ W4.heap.size ≤ W.heap.size)
    (fun _ _ h => h.2.2)
    (fun s A A' h ha => ⟨⟨h.1.1, box_abide h.1.2.1 ha (by omega), box_abide h.1.2.2 ha (by omega)⟩, h.2.1.trans (ha.below (by omega) (fun k hk => by omega)), Nat.le_trans h.2.2 ha.grows.size⟩)
    (fun c s A A' h ha => ⟨⟨h.1.1, h.1.2.1, box_abide h.1.2.2 ha (by omega)⟩, h.2.1.trans (ha.below (by omega) (fun k hk => by omega)), Nat.le_trans h.2.2 ha.grows.size⟩)
    ⟨⟨rfl, bx0, br0⟩, hb4, Nat.le_refl _⟩
    (fun p => { tmps := #[.int .i64 x, .slice A l.length c, .pointer (some ⟨w.heap.size, 0, none⟩), undef, .pointer (some ⟨w.heap.size + 1, 0, none⟩), .int .i64 p.1, .int .i64 p.2, .int .i64 x, .slice A l.length c,
      .func (.func 119) #[] #[.pointer (some ⟨w.heap.size + 1 + 1 + 1, 0, none⟩), .pointer (some ⟨w.heap.size + 1 + 1, 0, none⟩)], .int .i64 p.1, .int .i64 p.2, undef, undef, undef, undef, undef, undef, undef, undef], defers := [] }) ?assign ?body ?done ?stop
  case assign =>
    intro ly p W K hK
    gi_wp2
    exact hK
  case body =>
    rintro ly pre p rest W hxs ⟨⟨hall, hbx, hbr⟩, hB, hz⟩
    obtain ⟨hk, -, rfl⟩ := upto_at hxs
    have cx := hbx.cell
    have cr := hbr.cell
    have fr := hbr.frozen
    have HX := Lib.hid hall
    clear hall hxs hW4 hb4 bx0 br0 bs0 bl0 hs
    have hfn : ∀ k, Fence.wide.fn k := fun _ => trivial
    have hdp : Fence.wide.depth = none := rfl
    dsimp only [side]
    have hbe := list_behind x (before x l pre.length) (nth l pre.length) W
    cases hok : okAt x l pre.length with
    | true =>
      rw [show (isPl (nth l pre.length) && decide (far x (before x l pre.length) < far x (nth l pre.length))) = true from hok] at hbe
      have HB := Lib.hid hbe
      have HO := Lib.hid hok
      clear hbe hok
      gi_wp2_with (gi_at_call 111; refine (CallsIn.inRound ly (callsIn_wide.2 HB.out)).mono ?_; rintro e w' ⟨rfl, rfl⟩)
      exact ⟨BodyKeeps.refl _ _ _, ⟨by rw [List.length_append]; exact allTo_next HX.out HO.out, hbx, hbr⟩, hB, hz⟩
    | false =>
      rw [show (isPl (nth l pre.length) && decide (far x (before x l pre.length) < far x (nth l pre.length))) = false from hok] at hbe
      have HB := Lib.hid hbe
      have HO := Lib.hid hok
      clear hbe hok
      gi_wp2_with (gi_at_call 111; refine (CallsIn.inRound ly (callsIn_wide.2 HB.out)).mono ?_; rintro e w' ⟨rfl, rfl⟩)
      exact ⟨BodyKeeps.setCell W (p := ⟨w.heap.size + 1, 0, none⟩) (by show ¬ (w.heap.size + 1 < _ ∨ w.heap.size + 1 = _ ∨ w.heap.size + 1 = _); omega) _, ⟨rfl, by rw [rightL, allTo_false hk HO.out]; rfl, hbr.set _⟩, hB.setCell (p := ⟨w.heap.size + 1, 0, none⟩) (by show w.heap.size ≤ w.heap.size + 1; omega) _, Nat.le_trans hz (Grows.setCell W _ _).size⟩
  case done =>
    rintro D W hD ⟨⟨hall, hbx, hbr⟩, hB, hz⟩ hK
    have cr := hbr.cell
    have fr := hbr.frozen
    have HX := Lib.hid hall
    clear hall hW4 hb4 bx0 br0 bs0 bl0 hs
    go_wp2
    have hK2 := (KeepsOthers.setCell W ⟨w.heap.size + 1, 0, none⟩ (.bool (decide ((l.length : Int) ≤ 3)))).same D _ hK rfl
    have hr := (box_putObj (hbr.set (.bool (decide ((l.length : Int) ≤ 3)))) (D := D) (by omega) (.deferred none)).cell
    refine leave_mark hK2 (v := .bool (decide ((l.length : Int) ≤ 3))) (by simp [results, Try.f80, go_sem, hr]) ⟨ret_bool ?_, (hB.setCell (p := ⟨w.heap.size + 1, 0, none⟩) (by show w.heap.size ≤ w.heap.size + 1; omega) _).trans (below_mark (by omega))⟩
    have := HX.out
    rw [upto_length] at this
    rw [rightL, this, Bool.true_and, Bool.eq_iff_iff, decide_eq_true_eq, decide_eq_true_eq]; omega
  case stop =>
    rintro D c pre p rest W hD hxs ⟨⟨rfl, hr, hbr⟩, hB, hz⟩ hK
    clear hxs hW4 hb4 bx0 br0 bs0 bl0 hs
    have HX := Lib.hid hr
    clear hr
    go_wp2
    have hr := (box_putObj hbr (D := D) (by omega) (.deferred none)).cell
    exact leave_mark hK (v := .bool false) (by simp [results, Try.f80, go_sem, hr]) ⟨ret_bool HX.out.symm, hB.trans (below_mark (by omega))⟩
end Go.Proofs.Ytbjgfcempfpfcaa
