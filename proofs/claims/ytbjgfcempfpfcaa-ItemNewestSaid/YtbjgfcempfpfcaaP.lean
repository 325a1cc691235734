/- The iterator rect.improved. -/
import Derived.Test.YtbjgfcempfpfcaaO
namespace Go.Proofs.Ytbjgfcempfpfcaa
open Go.RowKit Go.Shelf

attribute [local go_sem] Oper.semAt_some

def stepP (p : View × List Int) (n : Int) : View × List Int := if btV p.1 n then (p.1.withPred n, p.2 ++ [n]) else p
/-- The view behind a row, and who of them was better. -/
def accP (x : View) (l : List Int) : View × List Int := l.foldl stepP (x, [])
theorem accP_next (x : View) {l : List Int} {k : Nat} (h : k < l.length) : accP x (l.take (k + 1)) = stepP (accP x (l.take k)) (nth l k) := by
  rw [accP, nth_eq h, List.take_succ_eq_append_getElem h, List.foldl_append]; rfl
theorem stepP_grow (p : View × List Int) (l : List Int) : ∃ rest, (l.foldl stepP p).2 = p.2 ++ rest := by
  induction l generalizing p with
  | nil => exact ⟨[], by simp⟩
  | cons n l ih =>
    obtain ⟨r, h⟩ := ih (stepP p n)
    rw [List.foldl_cons, h]
    unfold stepP
    split
    · exact ⟨n :: r, by simp⟩
    · exact ⟨r, rfl⟩
theorem accP_split (x : View) {l : List Int} {k : Nat} (h : k < l.length) (hb : btV (accP x (l.take k)).1 (nth l k) = true) : ∃ rest, (accP x l).2 = (accP x (l.take k)).2 ++ nth l k :: rest := by
  obtain ⟨r, hr⟩ := stepP_grow (accP x (l.take (k + 1))) (l.drop (k + 1))
  refine ⟨r, ?_⟩
  have : accP x l = (l.drop (k + 1)).foldl stepP (accP x (l.take (k + 1))) := by
    rw [accP, accP, ← List.foldl_append, List.take_append_drop]
  rw [this, hr, accP_next x h, stepP, if_pos hb]
  simp
theorem stepP_yes {p : View × List Int} {n : Int} (h : btV p.1 n = true) : stepP p n = (p.1.withPred n, p.2 ++ [n]) := by simp [stepP, h]
theorem stepP_no {p : View × List Int} {n : Int} (h : btV p.1 n = false) : stepP p n = p := by simp [stepP, h]

abbrev encI (n : Int) : Array Value := #[.int .i64 n]

theorem wpListIn_load_view {F : Fence} {m : Nat} {ops : Array Oper} {rest : List Oper} {a : Act} {w : World} {Q : Exit → Act → World → Prop} {dst : Option Tmp} {ty : TypeId} {pos : String} {af : Array Edge} {t : Nat} (x : View) (A1 A2 : Option Addr) (c1 c2 B : Nat)
    (hg : VBox w B x A1 c1 A2 c2) (hx : a.eval (.tmp t) = .pointer (some ⟨B, 0, none⟩)) (h : wpListIn F m Try.prog ops Q rest (a.put dst (.agg (x.cells A1 c1 A2 c2))) w) :
    wpListIn F m Try.prog ops Q ({ dst := dst, op := .load 25 (.tmp t), type := ty, pos := pos, after := af, guard := none } :: rest) a w := by
  refine wpListIn_plain rfl fun K hK' => ?_
  unfold Oper.wpIn
  refine ⟨by simp [Oper.about], ?_⟩
  rw [Oper.semAt_plain F _ _ (by intro c hc; cases hc)]
  simp only [execOp, hx, Instr.loadAt, Instr.sureAddr, Sem.run_bind, Sem.run_pure, Result.andThen_ok, run_loadVar_row w B 25 25 (x.cells A1 c1 A2 c2) (0, 0) _ hg Try.underlying25 rfl (view_size _ _ _ _ _)]
  exact hK' _ _ h

set_option maxRecDepth 100000 in
set_option maxHeartbeats 1000000 in
theorem improved_iter (x : View) (A1 A2 : Option Addr) (c1 c2 : Nat) (A : Option Addr) (c : Nat) (l : List Int) (bl bv n0 : Nat) (W : World) (hs : Sl W A c l) (hA : 0 < l.length → ∀ b off, A = some ⟨b, off, none⟩ → b < n0)
    (hbl : Boxed W bl 22 (.slice A l.length c)) (hbv : VBox W bv x A1 c1 A2 c2) (hnv : n0 ≤ bv) :
    IterAt Try.prog 100 #[.pointer (some ⟨bl, 0, none⟩), .pointer (some ⟨bv, 0, none⟩)] encI (fun k => k = bv) (fun k => k < n0 ∨ k = bl ∨ k = bv) (accP x l).2 W := by
  intro ly J Jx hJ hJx hY h0
  refine callsIn_of_wp Try.func100 rfl trivial ?_ rfl
  simp only [Try.ntmps100, List.size_toArray, List.length_cons, List.length_nil, Nat.reduceAdd, Nat.reduceSub, Array.replicate_succ, Array.replicate_zero, List.push_toArray, List.append_toArray, List.nil_append, List.cons_append]
  have hfn : ∀ k, Fence.wide.fn k := fun _ => trivial
  have hdp : Fence.wide.depth = none := rfl
  have c1' := hbl.cell
  have hcap := hs.cap
  have hsm := hs.small
  have hn0 : n0 ≤ W.heap.size := Nat.le_trans hnv (Nat.le_of_lt hbv.lt)
  have H0 := Lib.hid (And.intro h0 hbv)
  clear h0
  gi_wp2
  gi_loopw [8] (fun i wr => ∃ k : Nat, k ≤ l.length ∧ i = .int .i64 k ∧ Hid (J (accP x (l.take k)).2 wr ∧ VBox wr bv (accP x (l.take k)).1 A1 c1 A2 c2 ∧ W.heap.size ≤ wr.heap.size ∧ (∀ j, j < n0 → wr.heap[j]? = W.heap[j]?)))
    (fun i _ => l.length - (intOf i).toNat)
  case atStart => exact ⟨0, Nat.zero_le _, rfl, H0.out.1, H0.out.2, Nat.le_refl _, fun _ _ => rfl⟩
  case round =>
    clear H0
    obtain ⟨k, hk, rfl, hw⟩ := hrel
    by_cases hlt2 : k < l.length
    · obtain ⟨b, off, rfl, _, hcell⟩ := hs.at_ (by omega)
      have hcx : wr.cell? ⟨b, off + k, none⟩ = some (.int .i64 (nth l k)) := (World.cell?_of_block (a := ⟨b, off + k, none⟩) (hw.out.2.2.2 b (hA (by omega) b off rfl))).trans (hcell k hlt2)
      clear hcell
      have hnx := accP_next x hlt2
      have hsp := accP_split x hlt2
      obtain ⟨p, hp⟩ : ∃ p, accP x (l.take k) = p := ⟨_, rfl⟩
      rw [hp] at hw hnx hsp
      clear hp
      obtain ⟨y, ys⟩ := p
      have hV := Lib.hid hw.out.2.1
      dsimp only at hV hsp
      cases hbt : btV y (nth l k) with
      | false =>
        rw [stepP_no hbt] at hnx
        have HN := Lib.hid hnx
        have HS := Lib.hid hsp
        clear hnx hsp
        gi_wp2_with (first | (refine wpListIn_load_view (t := 2) y A1 A2 c1 c2 bv ?hg ?hx ?_; (case hg => exact hV.out); (case hx => rfl)) | (gi_at_call 60; refine (callsIn_wide.2 (rect_better y A1 A2 c1 c2 wr)).mono ?_; rintro e w' ⟨rfl, rfl⟩) | (gi_at_call 97; refine (callsIn_wide.2 (rect_better1 y A1 A2 c1 c2 _ (nth l k) _ (VBox.new wr y A1 c1 A2 c2))).mono ?_; rintro e w' ⟨rfl, rfl⟩))
        go_roundw
        case rel => exact ⟨k + 1, by omega, by go_num, by rw [HN.out]; exact ⟨hJ _ _ _ hw.out.1 (Steps1.of_below ((Below.refl _ _).alloc (Nat.le_refl _) _)), hV.out.alloc _, Nat.le_trans hw.out.2.2.1 (by simp), fun j hj => (Below.heap_alloc _ _ j (by have := hw.out.2.2.1; omega)).trans (hw.out.2.2.2 j hj)⟩⟩
        case measure => simp [intOf]; omega
      | true =>
        rw [stepP_yes hbt] at hnx
        obtain ⟨rest, he⟩ := hsp hbt
        have HN := Lib.hid hnx
        clear hnx hsp
        have hV2 := Lib.hid ((hV.out.alloc (.cells (y.cells A1 c1 A2 c2) 25)).setPred (nth l k))
        have hJ2 := Lib.hid (hJ _ _ _ (hJ _ _ _ hw.out.1 (Steps1.of_below ((Below.refl _ wr).alloc (Nat.le_refl _) (.cells (y.cells A1 c1 A2 c2) 25)))) (Steps1.setCell (T := fun k => k = bv) _ (p := ⟨bv, 3, none⟩) rfl (.int .i64 (nth l k))))
        have p3 := (hV.out.alloc (.cells (y.cells A1 c1 A2 c2) 25)).cells.2.2.2.1
        have p4 := (hV.out.alloc (.cells (y.cells A1 c1 A2 c2) 25)).frozen
        obtain ⟨fn, tmps, assign, body, hy, hR⟩ := hY _ _ rest _ he hJ2.out
        dsimp only [encI] at hy
        have HE := Lib.hid he
        clear he
        gi_wp2_with (first | (refine wpListIn_load_view (t := 2) y A1 A2 c1 c2 bv ?hg ?hx ?_; (case hg => exact hV.out); (case hx => rfl)) | (gi_at_call 60; refine (callsIn_wide.2 (rect_better y A1 A2 c1 c2 wr)).mono ?_; rintro e w' ⟨rfl, rfl⟩) | (gi_at_call 97; refine (callsIn_wide.2 (rect_better1 y A1 A2 c1 c2 _ (nth l k) _ (VBox.new wr y A1 c1 A2 c2))).mono ?_; rintro e w' ⟨rfl, rfl⟩))
        refine hR.mono ?_
        rintro e W3 (⟨rfl, hJ3, hk3⟩ | ⟨rfl, hJx3⟩)
        · gi_wp2
          go_roundw
          case rel => exact ⟨k + 1, by omega, by go_num, by rw [HN.out]; exact ⟨hJ3, (hk3.block bv (.inr (.inr rfl))).trans hV2.out, Nat.le_trans (Nat.le_trans hw.out.2.2.1 (by simp)) hk3.grows.size, fun j hj => (hk3.block j (.inl hj)).trans ((Below.heap_setCell _ _ _ _ (by show j ≠ bv; omega)).trans ((Below.heap_alloc _ _ j (by have := hw.out.2.2.1; omega)).trans (hw.out.2.2.2 j hj)))⟩⟩
          case measure => simp [intOf]; omega
        · gi_wp2
          refine bodyPost_ret (results_none rfl _ _ _) rfl ?_
          exact ⟨⟨_, rfl⟩, .inr ⟨_, _, rest, HE.out, hJx3⟩⟩
    · obtain rfl : k = l.length := by omega
      have HK := Lib.hid hw.out.1
      rw [List.take_length] at HK
      gi_wp2
      go_end0
      exact ⟨⟨_, rfl⟩, .inl HK.out⟩
end Go.Proofs.Ytbjgfcempfpfcaa
