/- Timer: the reference's Same, In, Great -/
import Derived.Test.YthageikchniahaaTI
namespace Go.Proofs.Ythageikchniahaa
open Go.ChangeShapes Go.WideShapes Go.ChangeAt Go.RowKit
set_option linter.unusedSimpArgs false
set_option linter.unusedVariables false

theorem tz_ext {a b : List Tm} (h : a.length = b.length) (hj : ∀ j, j < a.length → tz a j = tz b j) : a = b := by
  apply List.ext_getElem?
  intro j
  rcases Nat.lt_or_ge j a.length with h1 | h1
  · rw [tz_lt h1, tz_lt (by omega), hj j h1]
  · rw [List.getElem?_eq_none h1, List.getElem?_eq_none (by omega)]
set_option maxRecDepth 100000 in
set_option maxHeartbeats 8000000 in
theorem rsame_any (A A2 : Option Addr) (n n2 c c2 : Nat) (l l2 : List Tm) (hm : n ≤ maxLen) (w : World) (h : Tms w w.heap.size A n l) (h2 : Tms w w.heap.size A2 n2 l2) (Q : Bool) (hQ : decide (l = l2) = Q) : Calls Try.prog 11 #[.slice A n c, .slice A2 n2 c2] w fun en w' => en = .returned (.bool Q) ∧ Below w.heap.size w w' := by
  have hl := h.1
  have hl2 := h2.1
  by_cases hne : n = n2
  rotate_left
  · have d : ((n : Int) != n2) = true := bne_iff_ne.2 (by omega)
    have gQ : Hid (Q = false) := Lib.hid (by rw [← hQ]; exact decide_eq_false (fun e => hne (by rw [← hl, ← hl2, e])))
    clear h h2 hQ hl hl2 hne hm
    go_enter Try.func11, Try.ntmps11
    go_wp2
    go_ret
    exact ⟨by rw [gQ.out]; rfl, Below.refl _ _⟩
  subst hne
  unfold maxLen at hm
  have hat : Hid (∀ k, k < n → ∃ ad, A = some ad ∧ ad.block < w.heap.size ∧ ∀ w', Below w.heap.size w w' → w'.cell? (ad.add (k * 2)) = some (.int .i64 (tz l k).1) ∧ w'.cell? ⟨(ad.add (k * 2)).block, (ad.add (k * 2)).off + 1, none⟩ = some (.int .i64 (tz l k).2)) := Lib.hid (fun k hk => h.at_ hk)
  have hat2 : Hid (∀ k, k < n → ∃ ad, A2 = some ad ∧ ad.block < w.heap.size ∧ ∀ w', Below w.heap.size w w' → w'.cell? (ad.add (k * 2)) = some (.int .i64 (tz l2 k).1) ∧ w'.cell? ⟨(ad.add (k * 2)).block, (ad.add (k * 2)).off + 1, none⟩ = some (.int .i64 (tz l2 k).2)) := Lib.hid (fun k hk => h2.at_ hk)
  have gy : Hid ((∀ j, j < n → tz l j = tz l2 j) → Q = true) := Lib.hid (fun hj => by rw [← hQ]; exact decide_eq_true (tz_ext (by omega) (fun j h => hj j (by omega))))
  have gn : Hid (∀ j, tz l j ≠ tz l2 j → Q = false) := Lib.hid (fun j hj => by rw [← hQ]; exact decide_eq_false (fun e => hj (by rw [e])))
  have hB0 := Below.refl w.heap.size w
  clear h h2 hQ hl hl2
  go_enter Try.func11, Try.ntmps11
  go_wp2
  go_loopw [5] (fun t wr => ∃ (k : Nat), k ≤ n ∧ t = .int .i64 (k : Int) ∧ Hid (∀ j, j < k → tz l j = tz l2 j) ∧ Below w.heap.size w wr) (fun t _ => n - (intOf t).toNat)
  case atStart => exact ⟨0, Nat.zero_le _, rfl, Lib.hid (fun j hj => by omega), hB0⟩
  case round =>
    clear hB0
    obtain ⟨k, hk, rfl, gI, hB⟩ := hrel
    by_cases hlt : k < n
    · obtain ⟨ad, rfl, hab, hc⟩ := hat.out k hlt
      obtain ⟨ad2, rfl, hab2, hc2⟩ := hat2.out k hlt
      have i1 : (0 : Int) ≤ k := by omega
      have i2 : (k : Int) < n := by omega
      have hBr := Below.refl wr.heap.size wr
      obtain ⟨x, y, hxy⟩ : ∃ x y, tz l k = (x, y) := ⟨_, _, rfl⟩
      obtain ⟨x2, y2, hxy2⟩ : ∃ x y, tz l2 k = (x, y) := ⟨_, _, rfl⟩
      rw [hxy] at hc
      rw [hxy2] at hc2
      have f0 : ∀ q : Bw wr.heap.size wr, q.w.cell? (ad.add (k * 2)) = some (.int .i64 x) := fun q => (hc q.w (hB.trans (q.h.mono hB.size))).1
      have f1 : ∀ q : Bw wr.heap.size wr, q.w.cell? ⟨(ad.add (k * 2)).block, (ad.add (k * 2)).off + 1, none⟩ = some (.int .i64 y) := fun q => (hc q.w (hB.trans (q.h.mono hB.size))).2
      have f2 : ∀ q : Bw wr.heap.size wr, q.w.cell? (ad2.add (k * 2)) = some (.int .i64 x2) := fun q => (hc2 q.w (hB.trans (q.h.mono hB.size))).1
      have f3 : ∀ q : Bw wr.heap.size wr, q.w.cell? ⟨(ad2.add (k * 2)).block, (ad2.add (k * 2)).off + 1, none⟩ = some (.int .i64 y2) := fun q => (hc2 q.w (hB.trans (q.h.mono hB.size))).2
      have gx : Hid (tz l k = (x, y) ∧ tz l2 k = (x2, y2)) := Lib.hid ⟨hxy, hxy2⟩
      have gB := Lib.hid hB
      clear hc hc2 hxy hxy2 hab hab2 hB
      by_cases e1 : x = x2
      · subst e1
        have d1 : (x != x) = false := by simp
        by_cases e2 : y = y2
        · subst e2
          have d2 : (y != y) = false := by simp
          have gI' : Hid (∀ j, j < k + 1 → tz l j = tz l2 j) := Lib.hid (fun j hj => by
            rcases Nat.lt_or_ge j k with h1 | h1
            · exact gI.out j h1
            · rw [show j = k by omega, gx.out.1, gx.out.2])
          clear gI gx
          go_wp2_with fail
          refine wp_region_wq wr.heap.size wr hBr (by kernel_rfl) (by kernel_rfl) ?_
          repeat (first | (refine WQ.yes (by rfl) (fun K hK => ?_); go_simp; first | (refine hK _ ?_; clear hK K) | (apply Exists.intro; refine ⟨fun _ => ?_, hK _ ?_⟩; (fail); clear hK K)) | (refine WQ.no (by rfl) ?_; (try simp only [Act.put, List.setIfInBounds_toArray, List.set_cons_zero, List.set_cons_succ])))
          refine WQ.nil ?_
          intro pq
          go_wp2
          go_roundw
          case rel => exact ⟨k + 1, by omega, by go_num, gI', gB.out.trans (pq.h.mono gB.out.size)⟩
          case measure => simp [intOf]; omega
        · have d2 : (y != y2) = true := bne_iff_ne.2 e2
          have gQ : Hid (Q = false) := Lib.hid (gn.out k (by rw [gx.out.1, gx.out.2]; intro e; injection e with _ e; exact e2 e))
          clear gI gx e2
          go_wp2_with fail
          refine wp_region_wq wr.heap.size wr hBr (by kernel_rfl) (by kernel_rfl) ?_
          repeat (first | (refine WQ.yes (by rfl) (fun K hK => ?_); go_simp; first | (refine hK _ ?_; clear hK K) | (apply Exists.intro; refine ⟨fun _ => ?_, hK _ ?_⟩; (fail); clear hK K)) | (refine WQ.no (by rfl) ?_; (try simp only [Act.put, List.setIfInBounds_toArray, List.set_cons_zero, List.set_cons_succ])))
          refine WQ.nil ?_
          intro pq
          go_wp2
          go_ret
          exact ⟨by rw [gQ.out]; rfl, gB.out.trans (pq.h.mono gB.out.size)⟩
      · have d1 : (x != x2) = true := bne_iff_ne.2 e1
        have gQ : Hid (Q = false) := Lib.hid (gn.out k (by rw [gx.out.1, gx.out.2]; intro e; injection e with e; exact e1 e))
        clear gI gx e1
        go_wp2_with fail
        refine wp_region_wq wr.heap.size wr hBr (by kernel_rfl) (by kernel_rfl) ?_
        repeat (first | (refine WQ.yes (by rfl) (fun K hK => ?_); go_simp; first | (refine hK _ ?_; clear hK K) | (apply Exists.intro; refine ⟨fun _ => ?_, hK _ ?_⟩; (fail); clear hK K)) | (refine WQ.no (by rfl) ?_; (try simp only [Act.put, List.setIfInBounds_toArray, List.set_cons_zero, List.set_cons_succ])))
        refine WQ.nil ?_
        intro pq
        go_wp2
        go_ret
        exact ⟨by rw [gQ.out]; rfl, gB.out.trans (pq.h.mono gB.out.size)⟩
    · obtain rfl : k = n := by omega
      have gQ : Hid (Q = true) := Lib.hid (gy.out gI.out)
      clear hat hat2 gI
      go_wp2
      go_ret
      exact ⟨by rw [gQ.out]; rfl, hB⟩
def grT (n : Nat) : Bool := (decide (100 < n) && decide (n < 1024)) || decide (1028 < n)
theorem rgreat_any (A : Option Addr) (n c : Nat) (w : World) (Q : Bool) (hQ : grT n = Q) : Calls Try.prog 8 #[.slice A n c] w fun en w' => en = .returned (.bool Q) ∧ w' = w := by
  obtain ⟨q0, hq0⟩ : ∃ q, decide ((100 : Int) < n) = q := ⟨_, rfl⟩
  obtain ⟨q1, hq1⟩ : ∃ q, decide ((n : Int) < 1024) = q := ⟨_, rfl⟩
  obtain ⟨q2, hq2⟩ : ∃ q, decide ((1028 : Int) < n) = q := ⟨_, rfl⟩
  obtain ⟨hr0, hr1, hr2⟩ : decide (100 < n) = q0 ∧ decide (n < 1024) = q1 ∧ decide (1028 < n) = q2 := by
    refine ⟨?_, ?_, ?_⟩
    · rw [← hq0]; by_cases h : 100 < n <;> simp [h] <;> omega
    · rw [← hq1]; by_cases h : n < 1024 <;> simp [h] <;> omega
    · rw [← hq2]; by_cases h : 1028 < n <;> simp [h] <;> omega
  have e : Q = ((q0 && q1) || q2) := by rw [← hQ, ← hr0, ← hr1, ← hr2]; rfl
  subst e
  clear hQ
  cases q0 <;> cases q1 <;> cases q2 <;> (go_enter Try.func8, Try.ntmps8; go_wp2; go_ret; exact ⟨rfl, rfl⟩)
set_option maxRecDepth 100000 in
set_option maxHeartbeats 8000000 in
theorem rin_any (A : Option Addr) (n c : Nat) (l : List Tm) (x y : Int) (hm : n ≤ maxLen) (w : World) (h : Tms w w.heap.size A n l) (Q : Bool) (hQ : l.contains (x, y) = Q) : Calls Try.prog 32 #[.slice A n c, .agg #[.int .i64 x, .int .i64 y]] w fun en w' => en = .returned (.bool Q) ∧ Below w.heap.size w w' := by
  have hl := h.1
  unfold maxLen at hm
  have hat : Hid (∀ k, k < n → ∃ ad, A = some ad ∧ ad.block < w.heap.size ∧ ∀ w', Below w.heap.size w w' → w'.cell? (ad.add (k * 2)) = some (.int .i64 (tz l k).1) ∧ w'.cell? ⟨(ad.add (k * 2)).block, (ad.add (k * 2)).off + 1, none⟩ = some (.int .i64 (tz l k).2)) := Lib.hid (fun k hk => h.at_ hk)
  have gy : Hid (∀ k, k < n → tz l k = (x, y) → Q = true) := Lib.hid (fun k hk e => by rw [← hQ, ← e]; simpa using List.mem_of_getElem? (tz_lt (l := l) (k := k) (by omega)))
  have gn : Hid ((∀ j, j < n → tz l j ≠ (x, y)) → Q = false) := Lib.hid (fun hj => by
    rw [← hQ]
    simp only [List.contains_eq_mem, decide_eq_false_iff_not]
    intro hmem
    obtain ⟨j, hj2, e⟩ := List.getElem_of_mem hmem
    exact hj j (by omega) (by rw [tz_some (List.getElem?_eq_getElem hj2), e]))
  obtain ⟨V, hV⟩ : ∃ V, V = w.alloc (.cells #[.int .i64 x, .int .i64 y] 35) := ⟨_, rfl⟩
  have hB0 : Below w.heap.size w V := by rw [hV]; exact (Below.refl _ _).alloc (Nat.le_refl _) _
  have kb : Blk V w.heap.size 35 #[.int .i64 x, .int .i64 y] := by rw [hV]; exact Blk.new w _ _
  have hBV := Below.refl V.heap.size V
  clear h hQ hl
  go_enter Try.func32, Try.ntmps32
  go_wp2
  rw [← hV]
  clear hV
  go_loopw [5] (fun t wr => ∃ (k : Nat), k ≤ n ∧ t = .int .i64 (k : Int) ∧ Hid (∀ j, j < k → tz l j ≠ (x, y)) ∧ Below V.heap.size V wr) (fun t _ => n - (intOf t).toNat)
  case atStart => exact ⟨0, Nat.zero_le _, rfl, Lib.hid (fun j hj => by omega), hBV⟩
  case round =>
    clear hBV
    obtain ⟨k, hk, rfl, gI, hB⟩ := hrel
    by_cases hlt : k < n
    · obtain ⟨ad, rfl, hab, hc⟩ := hat.out k hlt
      have i1 : (0 : Int) ≤ k := by omega
      have i2 : (k : Int) < n := by omega
      have hBr := Below.refl wr.heap.size wr
      obtain ⟨x2, y2, hxy⟩ : ∃ x y, tz l k = (x, y) := ⟨_, _, rfl⟩
      rw [hxy] at hc
      have hVq : ∀ q : Bw wr.heap.size wr, Below V.heap.size V q.w := fun q => hB.trans (q.h.mono hB.size)
      have hWq : ∀ q : Bw wr.heap.size wr, Below w.heap.size w q.w := fun q => hB0.trans ((hVq q).mono hB0.size)
      have f0 : ∀ q : Bw wr.heap.size wr, q.w.cell? (ad.add (k * 2)) = some (.int .i64 x2) := fun q => (hc q.w (hWq q)).1
      have f1 : ∀ q : Bw wr.heap.size wr, q.w.cell? ⟨(ad.add (k * 2)).block, (ad.add (k * 2)).off + 1, none⟩ = some (.int .i64 y2) := fun q => (hc q.w (hWq q)).2
      have f2 : ∀ q : Bw wr.heap.size wr, q.w.cell? ⟨w.heap.size, 0, none⟩ = some (.int .i64 x) := fun q => by rw [(kb.below (hVq q) kb.lt).cell]; rfl
      have f3 : ∀ q : Bw wr.heap.size wr, q.w.cell? ⟨w.heap.size, 1, none⟩ = some (.int .i64 y) := fun q => by rw [(kb.below (hVq q) kb.lt).cell]; rfl
      have gW := Lib.hid hWq
      have gV := Lib.hid hVq
      clear hc hab hB hWq hVq
      by_cases e1 : x2 = x
      · subst e1
        have d1 : (x2 == x2) = true := by simp
        by_cases e2 : y2 = y
        · subst e2
          have d2 : (y2 == y2) = true := by simp
          have gQ : Hid (Q = true) := Lib.hid (gy.out k hlt hxy)
          clear gI hxy
          go_wp2_with fail
          refine wp_region_wq wr.heap.size wr hBr (by kernel_rfl) (by kernel_rfl) ?_
          repeat (first | (refine WQ.yes (by rfl) (fun K hK => ?_); go_simp; first | (refine hK _ ?_; clear hK K) | (apply Exists.intro; refine ⟨fun _ => ?_, hK _ ?_⟩; (fail); clear hK K)) | (refine WQ.no (by rfl) ?_; (try simp only [Act.put, List.setIfInBounds_toArray, List.set_cons_zero, List.set_cons_succ])))
          refine WQ.nil ?_
          intro pq
          go_wp2
          go_ret
          exact ⟨by rw [gQ.out]; rfl, gW.out pq⟩
        · have d2 : (y2 == y) = false := beq_eq_false_iff_ne.2 e2
          have gI' : Hid (∀ j, j < k + 1 → tz l j ≠ (x2, y)) := Lib.hid (fun j hj => by
            rcases Nat.lt_or_ge j k with h1 | h1
            · exact gI.out j h1
            · rw [show j = k by omega, hxy]; intro e; injection e with _ e; exact e2 e)
          clear gI hxy e2
          go_wp2_with fail
          refine wp_region_wq wr.heap.size wr hBr (by kernel_rfl) (by kernel_rfl) ?_
          repeat (first | (refine WQ.yes (by rfl) (fun K hK => ?_); go_simp; first | (refine hK _ ?_; clear hK K) | (apply Exists.intro; refine ⟨fun _ => ?_, hK _ ?_⟩; (fail); clear hK K)) | (refine WQ.no (by rfl) ?_; (try simp only [Act.put, List.setIfInBounds_toArray, List.set_cons_zero, List.set_cons_succ])))
          refine WQ.nil ?_
          intro pq
          go_wp2
          go_roundw
          case rel => exact ⟨k + 1, by omega, by go_num, gI', gV.out pq⟩
          case measure => simp [intOf]; omega
      · have d1 : (x2 == x) = false := beq_eq_false_iff_ne.2 e1
        have gI' : Hid (∀ j, j < k + 1 → tz l j ≠ (x, y)) := Lib.hid (fun j hj => by
          rcases Nat.lt_or_ge j k with h1 | h1
          · exact gI.out j h1
          · rw [show j = k by omega, hxy]; intro e; injection e with e; exact e1 e)
        clear gI hxy e1
        go_wp2_with fail
        refine wp_region_wq wr.heap.size wr hBr (by kernel_rfl) (by kernel_rfl) ?_
        repeat (first | (refine WQ.yes (by rfl) (fun K hK => ?_); go_simp; first | (refine hK _ ?_; clear hK K) | (apply Exists.intro; refine ⟨fun _ => ?_, hK _ ?_⟩; (fail); clear hK K)) | (refine WQ.no (by rfl) ?_; (try simp only [Act.put, List.setIfInBounds_toArray, List.set_cons_zero, List.set_cons_succ])))
        refine WQ.nil ?_
        intro pq
        go_wp2
        go_roundw
        case rel => exact ⟨k + 1, by omega, by go_num, gI', gV.out pq⟩
        case measure => simp [intOf]; omega
    · obtain rfl : k = n := by omega
      have gQ : Hid (Q = false) := Lib.hid (gn.out gI.out)
      clear hat gI
      go_wp2
      go_ret
      exact ⟨by rw [gQ.out]; rfl, hB0.trans (hB.mono hB0.size)⟩
end Go.Proofs.Ythageikchniahaa
