/- Timer: the library's Index, Contains, Clone at timers -/
import Derived.Test.YthageikchniahaaTN
import Derived.Lib.SliceRun
namespace Go.Proofs.Ythageikchniahaa
open Go.ChangeShapes Go.WideShapes Go.ChangeAt Go.RowKit
set_option linter.unusedSimpArgs false
set_option linter.unusedVariables false

set_option maxRecDepth 100000 in
set_option maxHeartbeats 8000000 in
theorem index_any (A : Option Addr) (n c : Nat) (l : List Tm) (x y : Int) (hm : n ≤ 5000) (w : World) (h : Tms w w.heap.size A n l) : Calls Try.prog 45 #[.slice A n c, .agg #[.int .i64 x, .int .i64 y]] w fun en w' => (∃ I, en = .returned (.int .i64 I) ∧ decide (0 ≤ I) = l.contains (x, y)) ∧ Below w.heap.size w w' := by
  have hl := h.1
  have hat : Hid (∀ k, k < n → ∃ ad, A = some ad ∧ ad.block < w.heap.size ∧ ∀ w', Below w.heap.size w w' → w'.cell? (ad.add (k * 2)) = some (.int .i64 (tz l k).1) ∧ w'.cell? ⟨(ad.add (k * 2)).block, (ad.add (k * 2)).off + 1, none⟩ = some (.int .i64 (tz l k).2)) := Lib.hid (fun k hk => h.at_ hk)
  have gy : Hid (∀ k, k < n → tz l k = (x, y) → l.contains (x, y) = true) := Lib.hid (fun k hk e => by rw [← e]; simpa using List.mem_of_getElem? (tz_lt (l := l) (k := k) (by omega)))
  have gn : Hid ((∀ j, j < n → tz l j ≠ (x, y)) → l.contains (x, y) = false) := Lib.hid (fun hj => by
    simp only [List.contains_eq_mem, decide_eq_false_iff_not]
    intro hmem
    obtain ⟨j, hj2, e⟩ := List.getElem_of_mem hmem
    exact hj j (by omega) (by rw [tz_some (List.getElem?_eq_getElem hj2), e]))
  obtain ⟨V, hV⟩ : ∃ V, V = w.alloc (.cells #[.int .i64 x, .int .i64 y] 35) := ⟨_, rfl⟩
  have hB0 : Below w.heap.size w V := by rw [hV]; exact (Below.refl _ _).alloc (Nat.le_refl _) _
  have kb : Blk V w.heap.size 35 #[.int .i64 x, .int .i64 y] := by rw [hV]; exact Blk.new w _ _
  have hBV := Below.refl V.heap.size V
  have hgd := guardT
  clear h hl
  go_enter Try.func45, Try.ntmps45
  go_wp2
  rw [← hV]
  clear hV
  go_loopw [8] (fun t wr => ∃ (k : Nat), k ≤ n ∧ t = .int .i64 (k : Int) ∧ Hid (∀ j, j < k → tz l j ≠ (x, y)) ∧ Below V.heap.size V wr) (fun t _ => n - (intOf t).toNat)
  case atStart => exact ⟨0, Nat.zero_le _, rfl, Lib.hid (fun j hj => by omega), hBV⟩
  case round =>
    clear hBV
    obtain ⟨k, hk, rfl, gI, hB⟩ := hrel
    by_cases hlt : k < n
    · obtain ⟨ad, rfl, hab, hc⟩ := hat.out k hlt
      have i1 : (0 : Int) ≤ k := by omega
      have i2 : (k : Int) < n := by omega
      have hBr := Below.refl wr.heap.size wr
      obtain ⟨x2, y2, hxy⟩ : ∃ x y, tz l k = (x, y) := ⟨_, _, rfl⟩
      rw [hxy] at hc
      have hVq : ∀ q : Bw wr.heap.size wr, Below V.heap.size V q.w := fun q => hB.trans (q.h.mono hB.size)
      have hWq : ∀ q : Bw wr.heap.size wr, Below w.heap.size w q.w := fun q => hB0.trans ((hVq q).mono hB0.size)
      have f0 : ∀ q : Bw wr.heap.size wr, q.w.cell? (ad.add (k * 2)) = some (.int .i64 x2) := fun q => (hc q.w (hWq q)).1
      have f1 : ∀ q : Bw wr.heap.size wr, q.w.cell? ⟨(ad.add (k * 2)).block, (ad.add (k * 2)).off + 1, none⟩ = some (.int .i64 y2) := fun q => (hc q.w (hWq q)).2
      have f2 : ∀ q : Bw wr.heap.size wr, q.w.cell? ⟨w.heap.size, 0, none⟩ = some (.int .i64 x) := fun q => by rw [(kb.below (hVq q) kb.lt).cell]; rfl
      have f3 : ∀ q : Bw wr.heap.size wr, q.w.cell? ⟨w.heap.size, 1, none⟩ = some (.int .i64 y) := fun q => by rw [(kb.below (hVq q) kb.lt).cell]; rfl
      have gW := Lib.hid hWq
      have gV := Lib.hid hVq
      obtain ⟨Q, hQ⟩ : ∃ Q, decide ((x, y) = (x2, y2)) = Q := ⟨_, rfl⟩
      have heq : ∀ w, (binOp .eql 35 (.agg #[.int .i64 x, .int .i64 y]) (.agg #[.int .i64 x2, .int .i64 y2])).run Try.prog w = .ok (.bool Q) w := fun w => by rw [eqlT, hQ]
      have gxy := Lib.hid hxy
      have gQ := Lib.hid hQ
      clear hc hab hB hWq hVq hxy hQ
      cases Q with
      | true =>
        have gR : Hid (l.contains (x, y) = true) := Lib.hid (gy.out k hlt (by rw [gxy.out]; exact (of_decide_eq_true gQ.out).symm))
        clear gI gy gn hat
        go_wp2_with fail
        refine wp_region_wq wr.heap.size wr hBr (by kernel_rfl) (by kernel_rfl) ?_
        repeat (first | (refine WQ.yes (by rfl) (fun K hK => ?_); go_simp; first | (refine hK _ ?_; clear hK K) | (apply Exists.intro; refine ⟨fun _ => ?_, hK _ ?_⟩; (fail); clear hK K)) | (refine WQ.no (by rfl) ?_; (try simp only [Act.put, List.setIfInBounds_toArray, List.set_cons_zero, List.set_cons_succ])))
        refine WQ.nil ?_
        intro pq
        go_wp2
        go_ret
        exact ⟨⟨_, rfl, by rw [gR.out]; exact decide_eq_true i1⟩, gW.out pq⟩
      | false =>
        have gI' : Hid (∀ j, j < k + 1 → tz l j ≠ (x, y)) := Lib.hid (fun j hj => by
          rcases Nat.lt_or_ge j k with h1 | h1
          · exact gI.out j h1
          · rw [show j = k by omega, gxy.out]; exact fun e => of_decide_eq_false gQ.out e.symm)
        clear gI
        go_wp2_with fail
        refine wp_region_wq wr.heap.size wr hBr (by kernel_rfl) (by kernel_rfl) ?_
        repeat (first | (refine WQ.yes (by rfl) (fun K hK => ?_); go_simp; first | (refine hK _ ?_; clear hK K) | (apply Exists.intro; refine ⟨fun _ => ?_, hK _ ?_⟩; (fail); clear hK K)) | (refine WQ.no (by rfl) ?_; (try simp only [Act.put, List.setIfInBounds_toArray, List.set_cons_zero, List.set_cons_succ])))
        refine WQ.nil ?_
        intro pq
        go_wp2
        go_roundw
        case rel => exact ⟨k + 1, by omega, by go_num, gI', gV.out pq⟩
        case measure => simp [intOf]; omega
    · obtain rfl : k = n := by omega
      have gR : Hid (l.contains (x, y) = false) := Lib.hid (gn.out gI.out)
      clear hat gI gy gn
      go_wp2
      go_ret
      exact ⟨⟨_, rfl, by rw [gR.out]; decide⟩, hB0.trans (hB.mono hB0.size)⟩
set_option maxHeartbeats 4000000 in
theorem contains_any (A : Option Addr) (n c : Nat) (l : List Tm) (x y : Int) (hm : n ≤ 5000) (w : World) (h : Tms w w.heap.size A n l) (Q : Bool) (hQ : l.contains (x, y) = Q) : Calls Try.prog 34 #[.slice A n c, .agg #[.int .i64 x, .int .i64 y]] w fun en w' => en = .returned (.bool Q) ∧ Below w.heap.size w w' := by
  obtain ⟨V, hV⟩ : ∃ V, V = w.alloc (.cells #[.int .i64 x, .int .i64 y] 35) := ⟨_, rfl⟩
  have hB0 : Below w.heap.size w V := by rw [hV]; exact (Below.refl _ _).alloc (Nat.le_refl _) _
  have kb : Blk V w.heap.size 35 #[.int .i64 x, .int .i64 y] := by rw [hV]; exact Blk.new w _ _
  have hi := index_any A n c l x y hm V (h.go hB0 hB0.size)
  rw [hQ] at hi
  have c0 : V.cell? ⟨w.heap.size, 0, none⟩ = some (.int .i64 x) := by rw [kb.cell]; rfl
  have c1 : V.cell? ⟨w.heap.size, 1, none⟩ = some (.int .i64 y) := by rw [kb.cell]; rfl
  clear h hQ kb
  go_enter Try.func34, Try.ntmps34
  go_wp2_with fail
  rw [← hV]
  refine hi.mono ?_
  rintro en w1 ⟨⟨I, rfl, hI⟩, hb1⟩
  clear hi hV
  go_wp2
  go_ret
  exact ⟨rfl, hB0.trans (hb1.mono hB0.size)⟩
set_option maxHeartbeats 4000000 in
theorem clone_any (A : Option Addr) (n c : Nat) (l : List Tm) (hm : n ≤ 5000) (w : World) (h : Tms w w.heap.size A n l) : Calls Try.prog 35 #[.slice A n c] w fun en w' => (∃ A' c', en = .returned (.slice A' n c') ∧ w'.ownsRow w.heap.size 35 2 (.slice A' n c') n (T2 l)) ∧ Below w.heap.size w w' := by
  obtain ⟨i0, hi0, hz0, hz1, hz2⟩ := info_parts infoT
  rcases A with _ | ad
  · have h0 : n = 0 := by
      rcases Nat.eq_zero_or_pos n with h1 | h1
      · exact h1
      · obtain ⟨ad, e, _⟩ := h.2.2 h1
        cases e
    subst h0
    have ha : l = [] := List.eq_nil_of_length_eq_zero h.1
    subst ha
    have q22 : ∀ (w : World), (binOp .eql 22 (.slice none 0 c) (.slice none 0 0)).run Try.prog w = .ok (.bool true) w := fun w => Lib.run_eql_slice_nil w _ _ none 0 c 0 0 Try.underlying22
    clear h
    go_enter Try.func35, Try.ntmps35
    go_wp2
    go_ret
    exact ⟨⟨none, 0, rfl, World.ownsRow_nil _ _ _ _⟩, Below.refl _ _⟩
  · have q22 : ∀ (w : World), (binOp .eql 22 (.slice (some ad) n c) (.slice none 0 0)).run Try.prog w = .ok (.bool false) w := fun w => Lib.run_eql_slice_nil w _ _ (some ad) n c 0 0 Try.underlying22
    go_enter Try.func35, Try.ntmps35
    go_wp2_with (at_builtin; refine wpList_append_any _ rfl (.tmp 5) (.tmp 6) 22 rfl w.heap.size 35 i0 _ 2 16 Try.underlying22 hi0 hz0 hz1 hz2 rfl (by omega) (.slice (some ⟨w.heap.size, 0, none⟩) 0 0) 0 [] rfl (own_empty (size := 2) (Blk.new w 35 #[]) (Nat.le_refl _)) w.heap.size (some ad) n c (T2 l) rfl ((h).2.alloc (Nat.le_refl _) _) (T2_one l) (by unfold maxLen; omega) (by omega) (by simp) ?_; intro v4 w4 ho4 hg4 hor4; rw [Nat.zero_add, List.nil_append] at ho4; obtain ⟨A4, c4, rfl, hc4, _⟩ := own_slice ho4)
    go_ret
    exact ⟨⟨A4, c4, rfl, ho4⟩, Below.grown ((Below.refl w.heap.size w).alloc (Nat.le_refl _) _) hg4 (by simp) (fun q hq => by simp [Value.ownBlock] at hq; omega)⟩
end Go.Proofs.Ythageikchniahaa
