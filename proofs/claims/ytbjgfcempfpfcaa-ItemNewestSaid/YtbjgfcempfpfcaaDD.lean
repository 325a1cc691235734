/- The iterator item.those, over the pairs that may be. -/
import Derived.Test.YtbjgfcempfpfcaaDC
import Derived.Test.YtbjgfcempfpfcaaP
namespace Go.Proofs.Ytbjgfcempfpfcaa
open Go.RowKit Go.Shelf

attribute [local go_sem] Oper.semAt_some

theorem filter_next (p : It → Bool) {l : List It} {k : Nat} (h : k < l.length) : (l.take (k + 1)).filter p = (l.take k).filter p ++ (if p (nthI l k) then [nthI l k] else []) := by
  rw [List.take_succ_eq_append_getElem h, List.filter_append, nthI_eq h]
  simp [List.filter_cons]
theorem filter_split (p : It → Bool) {l : List It} {k : Nat} (h : k < l.length) (hp : p (nthI l k) = true) : ∃ rest, l.filter p = (l.take k).filter p ++ nthI l k :: rest := by
  refine ⟨(l.drop (k + 1)).filter p, ?_⟩
  have e : l = l.take k ++ nthI l k :: l.drop (k + 1) := by
    rw [nthI_eq h, ← List.drop_eq_getElem_cons h, List.take_append_drop]
  conv => lhs; rw [e]
  rw [List.filter_append, List.filter_cons, hp, if_pos rfl]
abbrev encIt (x : It) : Array Value := #[.agg x.cells]

theorem wpListIn_load_item {F : Fence} {m : Nat} {ops : Array Oper} {rest : List Oper} {a : Act} {w : World} {Q : Exit → Act → World → Prop} {dst : Option Tmp} {ty : TypeId} {pos : String} {af : Array Edge} {t : Nat} {gd : Option (Nat × Bool)} (x : It) (B : Nat)
    (hg : IBox w B x) (hw : Region.wanted { dst := dst, op := .load 40 (.tmp t), type := ty, pos := pos, after := af, guard := gd } (yielded ops a.tmps) = true) (hx : a.eval (.tmp t) = .pointer (some ⟨B, 0, none⟩)) (h : wpListIn F m Try.prog ops Q rest (a.put dst (.agg #[.string x.key, .int .i64 x.value, .int .i64 x.version, .bool x.gone])) w) :
    wpListIn F m Try.prog ops Q ({ dst := dst, op := .load 40 (.tmp t), type := ty, pos := pos, after := af, guard := gd } :: rest) a w := by
  refine wpListIn_step fun K hK' => ?_
  rw [if_pos hw]
  unfold Oper.wpIn
  refine ⟨by simp [Oper.about], ?_⟩
  rw [Oper.semAt_plain F _ _ (by intro c hc; cases hc)]
  simp only [execOp, hx, Instr.loadAt, Instr.sureAddr, Sem.run_bind, Sem.run_pure, Result.andThen_ok, run_loadVar_row w B 40 40 x.cells (0, 0) _ hg Try.underlying40 rfl item_size]
  exact hK' _ _ h
theorem wpListIn_load_imid {F : Fence} {m : Nat} {ops : Array Oper} {rest : List Oper} {a : Act} {w : World} {Q : Exit → Act → World → Prop} {dst : Option Tmp} {ty : TypeId} {pos : String} {af : Array Edge} {t : Nat} {gd : Option (Nat × Bool)} (x : It) (b o : Nat)
    (hg : w.rangeAt b o x.cells.toList) (hw : Region.wanted { dst := dst, op := .load 40 (.tmp t), type := ty, pos := pos, after := af, guard := gd } (yielded ops a.tmps) = true) (hx : a.eval (.tmp t) = .pointer (some ⟨b, o, none⟩)) (h : wpListIn F m Try.prog ops Q rest (a.put dst (.agg #[.string x.key, .int .i64 x.value, .int .i64 x.version, .bool x.gone])) w) :
    wpListIn F m Try.prog ops Q ({ dst := dst, op := .load 40 (.tmp t), type := ty, pos := pos, after := af, guard := gd } :: rest) a w := by
  refine wpListIn_step fun K hK' => ?_
  rw [if_pos hw]
  unfold Oper.wpIn
  refine ⟨by simp [Oper.about], ?_⟩
  rw [Oper.semAt_plain F _ _ (by intro c hc; cases hc)]
  simp only [execOp, hx, run_loadAt_mid w b o 40 x.cells.toList _ hg Try.underlying40 rfl (by rw [item_size]; rfl), Sem.run_bind, Sem.run_pure, Result.andThen_ok]
  exact hK' _ _ h

set_option maxRecDepth 100000 in
set_option maxHeartbeats 1000000 in
theorem those_pair_iter (A : Option Addr) (c : Nat) (l : List It) (bl bs n0 : Nat) (W : World) (hs : SlI W A c l) (hA : 0 < l.length → ∀ b off, A = some ⟨b, off, none⟩ → b < n0)
    (hbl : Boxed W bl 44 (.slice A l.length c)) (hbs : Boxed W bs 48 (.func (.func 76) #[] #[])) (hn0 : n0 ≤ W.heap.size) (hsm : l.length ≤ 17592186044416) :
    IterAt Try.prog 107 #[.pointer (some ⟨bl, 0, none⟩), .pointer (some ⟨bs, 0, none⟩)] encIt (fun _ => False) (fun k => k < n0 ∨ k = bl ∨ k = bs) (l.filter pairI) W := by
  intro ly J Jx hJ hJx hY h0
  refine callsIn_of_wp Try.func107 rfl trivial ?_ rfl
  simp only [Try.ntmps107, List.size_toArray, List.length_cons, List.length_nil, Nat.reduceAdd, Nat.reduceSub, Array.replicate_succ, Array.replicate_zero, List.push_toArray, List.append_toArray, List.nil_append, List.cons_append]
  have hfn : ∀ k, Fence.wide.fn k := fun _ => trivial
  have hdp : Fence.wide.depth = none := rfl
  have c1' := hbl.cell
  have hcap := hs.cap
  have hlow0 := Lib.hid (show ∀ j, (j < n0 ∨ j = bl ∨ j = bs) → j < W.heap.size from fun j hj => by
    rcases hj with h | h | h
    · omega
    · rw [h]; exact hbl.lt
    · rw [h]; exact hbs.lt)
  have H0 := Lib.hid h0
  clear h0
  gi_wp2
  gi_loopw [5, 8] (fun t5 i wr => ∃ k : Nat, k ≤ l.length ∧ i = .int .i64 k ∧ Hid (J ((l.take k).filter pairI) wr ∧ W.heap.size ≤ wr.heap.size ∧ (∀ j, (j < n0 ∨ j = bl ∨ j = bs) → wr.heap[j]? = W.heap[j]?)))
    (fun t5 i _ => l.length - (intOf i).toNat)
  case atStart => exact ⟨0, Nat.zero_le _, rfl, Lib.hid ⟨H0.out, Nat.le_refl _, fun _ _ => rfl⟩⟩
  case round =>
    clear H0
    obtain ⟨k, hk, rfl, hw⟩ := hrel
    by_cases hlt2 : k < l.length
    · obtain ⟨b, off, rfl, _, hcell⟩ := hs.at_ (by omega)
      have hkeep := Lib.hid (fun j (hj : j < n0 ∨ j = bl ∨ j = bs) => hw.out.2.2 j hj)
      have hrng : wr.rangeAt b (off + k * 4) (nthI l k).cells.toList := fun j v hv => (World.cell?_of_block (a := ⟨b, off + k * 4 + j, none⟩) (hkeep.out b (.inl (hA (by omega) b off rfl)))).trans (hcell k hlt2 j v hv)
      have hso : wr.cell? ⟨bs, 0, none⟩ = some (.func (.func 76) #[] #[]) := (World.cell?_of_block (a := ⟨bs, 0, none⟩) (hkeep.out bs (.inr (.inr rfl)))).trans hbs.cell
      clear hcell
      have hnew := IBox.new wr (nthI l k)
      have hb1 := one_more (w := wr) (.cells (nthI l k).cells 40)
      have hlow := Lib.hid (fun j (hj : j < n0 ∨ j = bl ∨ j = bs) => Nat.lt_of_lt_of_le (hlow0.out j hj) hw.out.2.1)
      have hso2 : (wr.alloc (.cells #[.string (nthI l k).key, .int .i64 (nthI l k).value, .int .i64 (nthI l k).version, .bool (nthI l k).gone] 40)).cell? ⟨bs, 0, none⟩ = some (.func (.func 76) #[] #[]) := (World.cell?_of_block (a := ⟨bs, 0, none⟩) (hb1.block bs (by have := hbs.lt; have := hw.out.2.1; omega))).trans hso
      have hnx := Lib.hid (filter_next pairI hlt2)
      cases e1 : pairI (nthI l k) with
      | false =>
        gi_wp2_with (first | (refine wpListIn_load_imid (t := 10) (nthI l k) b (off + k * 4) ?hg ?hw ?hx ?_; (case hg => exact hrng); (case hw => rfl); (case hx => rfl)) | (refine wpListIn_load_item (t := 5) (nthI l k) wr.heap.size ?hg ?hw ?hx ?_; (case hg => exact hnew); (case hw => rfl); (case hx => rfl)) | (gi_at_call 76; refine (callsIn_wide.2 (msg_Pair (nthI l k) _)).mono ?_; rintro e W2 ⟨he, hb⟩; rw [e1] at he; subst he))
        go_roundw
        case rel =>
          have hb2 := hb1.trans (hb.mono hb1.size)
          exact ⟨k + 1, by omega, by go_num, Lib.hid ⟨by rw [hnx.out, e1]; simp only [Bool.false_eq_true, if_false, List.append_nil]; exact hJ _ _ _ hw.out.1 (Steps1.of_below hb2), Nat.le_trans hw.out.2.1 hb2.size, fun j hj => (hb2.block j (hlow.out j hj)).trans (hw.out.2.2 j hj)⟩⟩
        case measure => simp [intOf]; omega
      | true =>
        obtain ⟨rest, he0⟩ := filter_split pairI hlt2 e1
        have HE := Lib.hid he0
        clear he0
        gi_wp2_with (first | (refine wpListIn_load_imid (t := 10) (nthI l k) b (off + k * 4) ?hg ?hw ?hx ?_; (case hg => exact hrng); (case hw => rfl); (case hx => rfl)) | (refine wpListIn_load_item (t := 5) (nthI l k) wr.heap.size ?hg ?hw ?hx ?_; (case hg => exact hnew); (case hw => rfl); (case hx => rfl)) | (refine wpListIn_load_item (t := 5) (nthI l k) wr.heap.size ?hg ?hw ?hx ?_; (case hg => exact hnew2); (case hw => rfl); (case hx => rfl)) | (gi_at_call 76; refine (callsIn_wide.2 (msg_Pair (nthI l k) _)).mono ?_; rintro e W2 ⟨he, hb⟩; rw [e1] at he; subst he; have hb2 := hb1.trans (hb.mono hb1.size); have hnew2 := hnew.below hb; obtain ⟨fn, tmps, assign, body, hy, hR⟩ := hY _ _ rest W2 HE.out (hJ _ _ _ hw.out.1 (Steps1.of_below hb2)); dsimp only [encIt, It.cells] at hy))
        refine hR.mono ?_
        rintro e W3 (⟨rfl, hJ3, hk3⟩ | ⟨rfl, hJx3⟩)
        · gi_wp2
          go_roundw
          case rel => exact ⟨k + 1, by omega, by go_num, Lib.hid ⟨by rw [hnx.out, e1]; exact hJ3, Nat.le_trans hw.out.2.1 (Nat.le_trans hb2.size hk3.grows.size), fun j hj => (hk3.block j hj).trans ((hb2.block j (hlow.out j hj)).trans (hw.out.2.2 j hj))⟩⟩
          case measure => simp [intOf]; omega
        · gi_wp2
          refine bodyPost_ret (results_none rfl _ _ _) rfl ?_
          exact ⟨⟨_, rfl⟩, .inr ⟨_, _, rest, HE.out, hJx3⟩⟩
    · obtain rfl : k = l.length := by omega
      have HK := Lib.hid hw.out.1
      rw [List.take_length] at HK
      gi_wp2
      go_end0
      exact ⟨⟨_, rfl⟩, .inl HK.out⟩
end Go.Proofs.Ytbjgfcempfpfcaa
