/- Timer: timers that may be: the program's Check and the reference's -/
import Derived.Test.YthageikchniahaaTL
namespace Go.Proofs.Ythageikchniahaa
open Go.ChangeShapes Go.WideShapes Go.ChangeAt Go.RowKit
set_option linter.unusedSimpArgs false
set_option linter.unusedVariables false

instance (l : List Tm) : Decidable (Str l) := by unfold Str; exact inferInstance
theorem str_adj : ∀ {l : List Tm}, (∀ k, k + 1 < l.length → ahd (tz l k) (tz l (k + 1)) = true) → Str l
  | [], _ => List.Pairwise.nil
  | [x], _ => List.pairwise_singleton _ _
  | x :: y :: r, h => by
    have hr : Str (y :: r) := str_adj (fun k hk => by
      have := h (k + 1) (by simp at hk ⊢; omega)
      simpa [tz] using this)
    have hxy : ahd x y = true := by simpa [tz] using h 0 (by simp)
    refine List.pairwise_cons.2 ⟨fun z hz => ?_, hr⟩
    rcases List.mem_cons.1 hz with rfl | hz
    · exact hxy
    · exact ahd_trans hxy ((List.pairwise_cons.1 hr).1 z hz)
theorem adj_str {l : List Tm} (h : Str l) (k : Nat) (hk : k + 1 < l.length) : ahd (tz l k) (tz l (k + 1)) = true := by
  have h1 := List.pairwise_iff_getElem.1 h k (k + 1) (by omega) hk (by omega)
  rw [tz_some (List.getElem?_eq_getElem (by omega)), tz_some (List.getElem?_eq_getElem hk)]
  exact h1
/-- The error of timers. -/
def chkE (l : List Tm) : Int := if 1024 < l.length then 4 else if l.all mayT && decide (Str l) then 0 else 8
theorem chk_many {l : List Tm} (h : 1024 < l.length) : chkE l = 4 := by unfold chkE; rw [if_pos h]
theorem chk_ok {l : List Tm} (h : ¬ 1024 < l.length) (h1 : ∀ k, k < l.length → mayT (tz l k) = true ∧ (0 < k → ahd (tz l (k - 1)) (tz l k) = true)) : chkE l = 0 := by
  unfold chkE
  rw [if_neg h, if_pos]
  rw [Bool.and_eq_true, List.all_eq_true]
  refine ⟨fun t ht => ?_, decide_eq_true (str_adj (fun k hk => by have := (h1 (k + 1) hk).2 (by omega); simpa using this))⟩
  obtain ⟨j, hj, rfl⟩ := List.getElem_of_mem ht
  have := (h1 j hj).1
  rwa [tz_some (List.getElem?_eq_getElem hj)] at this
theorem chk_bad {l : List Tm} (h : ¬ 1024 < l.length) {k : Nat} (hk : k < l.length) (h1 : mayT (tz l k) = false ∨ (0 < k ∧ ahd (tz l (k - 1)) (tz l k) = false)) : chkE l = 8 := by
  unfold chkE
  rw [if_neg h, if_neg]
  rw [Bool.and_eq_true, List.all_eq_true]
  rintro ⟨h2, h3⟩
  rcases h1 with h1 | ⟨h0, h1⟩
  · rw [h2 _ (List.mem_of_getElem? (tz_lt hk))] at h1
    cases h1
  · have := adj_str (of_decide_eq_true h3) (k - 1) (by omega)
    rw [show k - 1 + 1 = k by omega, h1] at this
    cases this
theorem chk_str {l : List Tm} (h : chkE l = 0) : l.length ≤ 1024 ∧ Str l ∧ ∀ t ∈ l, mayT t = true := by
  unfold chkE at h
  by_cases h1 : 1024 < l.length
  · rw [if_pos h1] at h; cases h
  · rw [if_neg h1] at h
    by_cases h2 : (l.all mayT && decide (Str l)) = true
    · rw [Bool.and_eq_true, List.all_eq_true] at h2
      exact ⟨by omega, of_decide_eq_true h2.2, h2.1⟩
    · rw [if_neg h2] at h; cases h
theorem chk_vals (l : List Tm) : chkE l = 0 ∨ chkE l = 4 ∨ chkE l = 8 := by
  unfold chkE
  split
  · exact .inr (.inl rfl)
  · split
    · exact .inl rfl
    · exact .inr (.inr rfl)
set_option maxRecDepth 100000 in
set_option maxHeartbeats 16000000 in
theorem check_any (A : Option Addr) (n c : Nat) (l : List Tm) (w : World) (h : Tms w w.heap.size A n l) (hm : n ≤ maxLen) (E : Int) (hE : chkE l = E) : Calls Try.prog 16 #[.slice A n c] w fun en w' => en = .returned (.int .i64 E) ∧ Below w.heap.size w w' := by
  have gl := Lib.hid h.1
  by_cases hb : 1024 < n
  · have d5 : decide ((1024 : Int) < n) = true := decide_eq_true (by omega)
    have d6 : decide (1024 < n) = true := decide_eq_true hb
    have g4 : Hid (E = 4) := Lib.hid (by rw [← hE]; exact chk_many (by rw [gl.out]; exact hb))
    clear h hb hm hE
    go_enter Try.func16, Try.ntmps16
    go_wp2
    go_ret
    exact ⟨by rw [g4.out]; rfl, Below.refl _ _⟩
  have hn : n ≤ 1024 := by omega
  have d5 : decide ((1024 : Int) < n) = false := decide_eq_false (by omega)
  have d6 : decide (1024 < n) = false := decide_eq_false hb
  have hat : Hid (∀ k, k < n → ∃ ad, A = some ad ∧ ad.block < w.heap.size ∧ ∀ w', Below w.heap.size w w' → w'.cell? (ad.add (k * 2)) = some (.int .i64 (tz l k).1) ∧ w'.cell? ⟨(ad.add (k * 2)).block, (ad.add (k * 2)).off + 1, none⟩ = some (.int .i64 (tz l k).2)) := Lib.hid (fun k hk => h.at_ hk)
  have gbad : Hid (∀ k, k < n → (mayT (tz l k) = false ∨ (0 < k ∧ ahd (tz l (k - 1)) (tz l k) = false)) → E = 8) := Lib.hid (fun k hk h1 => by rw [← hE]; exact chk_bad (by rw [gl.out]; exact hb) (by rw [gl.out]; exact hk) h1)
  have ggood : Hid ((∀ k, k < n → mayT (tz l k) = true ∧ (0 < k → ahd (tz l (k - 1)) (tz l k) = true)) → E = 0) := Lib.hid (fun hg => by rw [← hE]; exact chk_ok (by rw [gl.out]; exact hb) (fun k hk => hg k (by rw [← gl.out]; exact hk)))
  have hB0 := Below.refl w.heap.size w
  clear h hb hm hE
  go_enter Try.func16, Try.ntmps16
  go_wp2
  go_loopw [10] (fun t wr => ∃ (k : Nat), k ≤ n ∧ t = .int .i64 (k : Int) ∧ Hid (∀ j, j < k → mayT (tz l j) = true ∧ (0 < j → ahd (tz l (j - 1)) (tz l j) = true)) ∧ Below w.heap.size w wr) (fun t _ => n - (intOf t).toNat)
  case atStart => exact ⟨0, Nat.zero_le _, rfl, Lib.hid (fun j hj => by omega), hB0⟩
  case round =>
    clear hB0
    obtain ⟨k, hk, rfl, gI, hB⟩ := hrel
    by_cases hlt : k < n
    · obtain ⟨ad, rfl, hab, hc⟩ := hat.out k hlt
      obtain ⟨c0, c1⟩ := hc wr hB
      have i1 : (0 : Int) ≤ k := by omega
      have i2 : (k : Int) < n := by omega
      obtain ⟨x, y, hxy⟩ : ∃ x y, tz l k = (x, y) := ⟨_, _, rfl⟩
      rw [hxy] at c0 c1 hc
      obtain ⟨W, hW⟩ : ∃ W, W = wr.alloc (.cells #[.int .i64 x, .int .i64 y] 35) := ⟨_, rfl⟩
      have hBW : Below wr.heap.size wr W := by rw [hW]; exact (Below.refl _ _).alloc (Nat.le_refl _) _
      have kb : Blk W wr.heap.size 35 #[.int .i64 x, .int .i64 y] := by rw [hW]; exact Blk.new wr _ _
      have hB2 : Below w.heap.size w W := hB.trans (hBW.mono hB.size)
      have b0 : ∀ q : Bw W.heap.size W, q.w.cell? ⟨wr.heap.size, 0, none⟩ = some (.int .i64 x) := fun q => by rw [(kb.below q.h kb.lt).cell]; rfl
      have b1 : ∀ q : Bw W.heap.size W, q.w.cell? ⟨wr.heap.size, 1, none⟩ = some (.int .i64 y) := fun q => by rw [(kb.below q.h kb.lt).cell]; rfl
      have hBr := Below.refl W.heap.size W
      have hwq : ∀ q : Bw W.heap.size W, Below w.heap.size w q.w := fun q => hB2.trans (q.h.mono hB2.size)
      have f0 : ∀ q : Bw W.heap.size W, q.w.cell? (ad.add (k * 2)) = some (.int .i64 x) := fun q => (hc q.w (hwq q)).1
      have f1 : ∀ q : Bw W.heap.size W, q.w.cell? ⟨(ad.add (k * 2)).block, (ad.add (k * 2)).off + 1, none⟩ = some (.int .i64 y) := fun q => (hc q.w (hwq q)).2
      obtain ⟨Q, hQ⟩ : ∃ Q, mayT (x, y) = Q := ⟨_, rfl⟩
      have hcm : ∀ q : Bw W.heap.size W, Calls Try.prog 27 #[.agg #[.int .i64 x, .int .i64 y]] q.w fun en w' => en = .returned (.bool Q) ∧ ∃ q' : Bw W.heap.size W, w' = q'.w := fun q => Calls.bw (may_any x y q.w Q hQ) (Nat.le_refl _)
      have gQ : Hid (mayT (tz l k) = Q) := Lib.hid (by rw [hxy]; exact hQ)
      have gw := Lib.hid hwq
      have gxy := Lib.hid hxy
      clear hc hQ hwq hB hB2 hxy kb hBW
      cases Q with
      | false =>
        have g8 := Lib.hid (gbad.out k hlt (.inl gQ.out))
        clear gQ gI gbad ggood hat
        go_wp2_with fail
        rw [← hW]
        clear hW
        refine wp_region_wq W.heap.size W hBr (by kernel_rfl) (by kernel_rfl) ?_
        repeat (first | (refine WQ.yes (by rfl) (fun K hK => ?_); go_simp; first | (refine hK _ ?_; clear hK K) | (apply Exists.intro; refine ⟨fun _ => ?_, hK _ ?_⟩; (exact hcm _); clear hK K)) | (refine WQ.no (by rfl) ?_; (try simp only [Act.put, List.setIfInBounds_toArray, List.set_cons_zero, List.set_cons_succ])))
        refine WQ.nil ?_
        intro pq
        go_wp2
        go_ret
        exact ⟨by rw [g8.out]; rfl, gw.out pq⟩
      | true =>
        rcases Nat.eq_zero_or_pos k with h0 | h0
        · have kz : decide ((0 : Int) < k) = false := decide_eq_false (by omega)
          have kz2 : decide (0 < k) = false := decide_eq_false (by omega)
          have gI' : Hid (∀ j, j < k + 1 → mayT (tz l j) = true ∧ (0 < j → ahd (tz l (j - 1)) (tz l j) = true)) := Lib.hid (fun j hj => by
            obtain rfl : j = k := by omega
            exact ⟨gQ.out, fun h => by omega⟩)
          clear h0 gQ gI gbad ggood hat
          go_wp2_with fail
          rw [← hW]
          clear hW
          refine wp_region_wq W.heap.size W hBr (by kernel_rfl) (by kernel_rfl) ?_
          repeat (first | (refine WQ.yes (by rfl) (fun K hK => ?_); go_simp; first | (refine hK _ ?_; clear hK K) | (apply Exists.intro; refine ⟨fun _ => ?_, hK _ ?_⟩; (exact hcm _); clear hK K)) | (refine WQ.no (by rfl) ?_; (try simp only [Act.put, List.setIfInBounds_toArray, List.set_cons_zero, List.set_cons_succ])))
          refine WQ.nil ?_
          intro pq
          go_wp2
          go_roundw
          case rel => exact ⟨k + 1, by omega, by go_num, gI', gw.out pq⟩
          case measure => simp [intOf]; omega
        · obtain ⟨j, hkj⟩ : ∃ j, k = j + 1 := ⟨k - 1, by omega⟩
          obtain ⟨ad2, e2, _, hc2⟩ := hat.out j (by omega)
          injection e2 with e2
          subst e2
          obtain ⟨x2, y2, hxy2⟩ : ∃ x y, tz l j = (x, y) := ⟨_, _, rfl⟩
          rw [hxy2] at hc2
          have f2 : ∀ q : Bw W.heap.size W, q.w.cell? (ad.add (j * 2)) = some (.int .i64 x2) := fun q => (hc2 q.w (gw.out q)).1
          have f3 : ∀ q : Bw W.heap.size W, q.w.cell? ⟨(ad.add (j * 2)).block, (ad.add (j * 2)).off + 1, none⟩ = some (.int .i64 y2) := fun q => (hc2 q.w (gw.out q)).2
          obtain ⟨P, hP⟩ : ∃ P, ahd (x2, y2) (x, y) = P := ⟨_, rfl⟩
          have hca : ∀ q : Bw W.heap.size W, Calls Try.prog 36 #[.agg #[.int .i64 x2, .int .i64 y2], .agg #[.int .i64 x, .int .i64 y]] q.w fun en w' => en = .returned (.bool P) ∧ ∃ q' : Bw W.heap.size W, w' = q'.w := fun q => Calls.bw (ahead_any x2 y2 x y q.w P hP) (Nat.le_refl _)
          have gP : Hid (ahd (tz l (k - 1)) (tz l k) = P) := Lib.hid (by rw [show k - 1 = j by omega, hxy2, gxy.out]; exact hP)
          have k1 : (0 : Int) ≤ j := by omega
          have k2 : (j : Int) < n := by omega
          have k3 : decide ((0 : Int) < (k : Int)) = true := decide_eq_true (by omega)
          have k6 : decide (0 < k) = true := decide_eq_true h0
          have k4 : IntKind.i64.wrap ((k : Int) - 1) = j := by rw [hkj]; simp [IntKind.wrap, IntKind.bits, IntKind.signed]; omega
          clear hc2 hP hxy2 hkj h0
          cases P with
          | false =>
            have g8 := Lib.hid (gbad.out k hlt (.inr ⟨of_decide_eq_true k6, gP.out⟩))
            clear gQ gI gbad ggood hat gP
            go_wp2_with fail
            rw [← hW]
            clear hW
            refine wp_region_wq W.heap.size W hBr (by kernel_rfl) (by kernel_rfl) ?_
            repeat (first | (refine WQ.yes (by rfl) (fun K hK => ?_); go_simp; first | (refine hK _ ?_; clear hK K) | (apply Exists.intro; refine ⟨fun _ => ?_, hK _ ?_⟩; (first | exact hcm _ | exact hca _); clear hK K)) | (refine WQ.no (by rfl) ?_; (try simp only [Act.put, List.setIfInBounds_toArray, List.set_cons_zero, List.set_cons_succ])))
            refine WQ.nil ?_
            intro pq
            go_wp2
            go_ret
            exact ⟨by rw [g8.out]; rfl, gw.out pq⟩
          | true =>
            have gI' : Hid (∀ i, i < k + 1 → mayT (tz l i) = true ∧ (0 < i → ahd (tz l (i - 1)) (tz l i) = true)) := Lib.hid (fun i hi => by
              rcases Nat.lt_or_ge i k with h1 | h1
              · exact gI.out i h1
              · obtain rfl : i = k := by omega
                exact ⟨gQ.out, fun _ => gP.out⟩)
            clear gQ gI gbad ggood hat gP
            go_wp2_with fail
            rw [← hW]
            clear hW
            refine wp_region_wq W.heap.size W hBr (by kernel_rfl) (by kernel_rfl) ?_
            repeat (first | (refine WQ.yes (by rfl) (fun K hK => ?_); go_simp; first | (refine hK _ ?_; clear hK K) | (apply Exists.intro; refine ⟨fun _ => ?_, hK _ ?_⟩; (first | exact hcm _ | exact hca _); clear hK K)) | (refine WQ.no (by rfl) ?_; (try simp only [Act.put, List.setIfInBounds_toArray, List.set_cons_zero, List.set_cons_succ])))
            refine WQ.nil ?_
            intro pq
            go_wp2
            go_roundw
            case rel => exact ⟨k + 1, by omega, by go_num, gI', gw.out pq⟩
            case measure => simp [intOf]; omega
    · obtain rfl : k = n := by omega
      have g0 : Hid (E = 0) := Lib.hid (ggood.out gI.out)
      clear hat gI gbad ggood
      go_wp2
      go_ret
      exact ⟨by rw [g0.out]; rfl, hB⟩
set_option maxRecDepth 100000 in
set_option maxHeartbeats 16000000 in
theorem rcheck_any (A : Option Addr) (n c : Nat) (l : List Tm) (w : World) (h : Tms w w.heap.size A n l) (hm : n ≤ maxLen) (E : Int) (hE : chkE l = E) : Calls Try.prog 24 #[.slice A n c] w fun en w' => en = .returned (.int .i64 E) ∧ Below w.heap.size w w' := by
  have gl := Lib.hid h.1
  by_cases hb : 1024 < n
  · have d5 : decide ((1024 : Int) < n) = true := decide_eq_true (by omega)
    have d6 : decide (1024 < n) = true := decide_eq_true hb
    have g4 : Hid (E = 4) := Lib.hid (by rw [← hE]; exact chk_many (by rw [gl.out]; exact hb))
    clear h hb hm hE
    go_enter Try.func24, Try.ntmps24
    go_wp2
    go_ret
    exact ⟨by rw [g4.out]; rfl, Below.refl _ _⟩
  have hn : n ≤ 1024 := by omega
  have d5 : decide ((1024 : Int) < n) = false := decide_eq_false (by omega)
  have d6 : decide (1024 < n) = false := decide_eq_false hb
  have hat : Hid (∀ k, k < n → ∃ ad, A = some ad ∧ ad.block < w.heap.size ∧ ∀ w', Below w.heap.size w w' → w'.cell? (ad.add (k * 2)) = some (.int .i64 (tz l k).1) ∧ w'.cell? ⟨(ad.add (k * 2)).block, (ad.add (k * 2)).off + 1, none⟩ = some (.int .i64 (tz l k).2)) := Lib.hid (fun k hk => h.at_ hk)
  have gbad : Hid (∀ k, k < n → (mayT (tz l k) = false ∨ (0 < k ∧ ahd (tz l (k - 1)) (tz l k) = false)) → E = 8) := Lib.hid (fun k hk h1 => by rw [← hE]; exact chk_bad (by rw [gl.out]; exact hb) (by rw [gl.out]; exact hk) h1)
  have ggood : Hid ((∀ k, k < n → mayT (tz l k) = true ∧ (0 < k → ahd (tz l (k - 1)) (tz l k) = true)) → E = 0) := Lib.hid (fun hg => by rw [← hE]; exact chk_ok (by rw [gl.out]; exact hb) (fun k hk => hg k (by rw [← gl.out]; exact hk)))
  have hB0 := Below.refl w.heap.size w
  clear h hb hm hE
  go_enter Try.func24, Try.ntmps24
  go_wp2
  go_loopw [3] (fun t wr => ∃ (k : Nat), k ≤ n ∧ t = .int .i64 (k : Int) ∧ Hid (∀ j, j < k → mayT (tz l j) = true ∧ (0 < j → ahd (tz l (j - 1)) (tz l j) = true)) ∧ Below w.heap.size w wr) (fun t _ => n - (intOf t).toNat)
  case atStart => exact ⟨0, Nat.zero_le _, rfl, Lib.hid (fun j hj => by omega), hB0⟩
  case round =>
    clear hB0
    obtain ⟨k, hk, rfl, gI, hB⟩ := hrel
    by_cases hlt : k < n
    · obtain ⟨ad, rfl, hab, hc⟩ := hat.out k hlt
      obtain ⟨c0, c1⟩ := hc wr hB
      have i1 : (0 : Int) ≤ k := by omega
      have i2 : (k : Int) < n := by omega
      obtain ⟨x, y, hxy⟩ : ∃ x y, tz l k = (x, y) := ⟨_, _, rfl⟩
      rw [hxy] at c0 c1 hc
      have hB2 := hB
      have hBr := Below.refl wr.heap.size wr
      have hwq : ∀ q : Bw wr.heap.size wr, Below w.heap.size w q.w := fun q => hB2.trans (q.h.mono hB2.size)
      have f0 : ∀ q : Bw wr.heap.size wr, q.w.cell? (ad.add (k * 2)) = some (.int .i64 x) := fun q => (hc q.w (hwq q)).1
      have f1 : ∀ q : Bw wr.heap.size wr, q.w.cell? ⟨(ad.add (k * 2)).block, (ad.add (k * 2)).off + 1, none⟩ = some (.int .i64 y) := fun q => (hc q.w (hwq q)).2
      obtain ⟨Q, hQ⟩ : ∃ Q, mayT (x, y) = Q := ⟨_, rfl⟩
      have hcm : ∀ q : Bw wr.heap.size wr, Calls Try.prog 31 #[.agg #[.int .i64 x, .int .i64 y]] q.w fun en w' => en = .returned (.bool Q) ∧ ∃ q' : Bw wr.heap.size wr, w' = q'.w := fun q => Calls.bw (rmay_any x y q.w Q hQ) (Nat.le_refl _)
      have gQ : Hid (mayT (tz l k) = Q) := Lib.hid (by rw [hxy]; exact hQ)
      have gw := Lib.hid hwq
      have gxy := Lib.hid hxy
      clear hc hQ hwq hB hB2 hxy
      cases Q with
      | false =>
        have g8 := Lib.hid (gbad.out k hlt (.inl gQ.out))
        clear gQ gI gbad ggood hat
        go_wp2_with fail
        refine wp_region_wq wr.heap.size wr hBr (by kernel_rfl) (by kernel_rfl) ?_
        repeat (first | (refine WQ.yes (by rfl) (fun K hK => ?_); go_simp; first | (refine hK _ ?_; clear hK K) | (apply Exists.intro; refine ⟨fun _ => ?_, hK _ ?_⟩; (exact hcm _); clear hK K)) | (refine WQ.no (by rfl) ?_; (try simp only [Act.put, List.setIfInBounds_toArray, List.set_cons_zero, List.set_cons_succ])))
        refine WQ.nil ?_
        intro pq
        go_wp2
        go_ret
        exact ⟨by rw [g8.out]; rfl, gw.out pq⟩
      | true =>
        rcases Nat.eq_zero_or_pos k with h0 | h0
        · have kz : decide ((0 : Int) < k) = false := decide_eq_false (by omega)
          have kz2 : decide (0 < k) = false := decide_eq_false (by omega)
          have gI' : Hid (∀ j, j < k + 1 → mayT (tz l j) = true ∧ (0 < j → ahd (tz l (j - 1)) (tz l j) = true)) := Lib.hid (fun j hj => by
            obtain rfl : j = k := by omega
            exact ⟨gQ.out, fun h => by omega⟩)
          clear h0 gQ gI gbad ggood hat
          go_wp2_with fail
          refine wp_region_wq wr.heap.size wr hBr (by kernel_rfl) (by kernel_rfl) ?_
          repeat (first | (refine WQ.yes (by rfl) (fun K hK => ?_); go_simp; first | (refine hK _ ?_; clear hK K) | (apply Exists.intro; refine ⟨fun _ => ?_, hK _ ?_⟩; (exact hcm _); clear hK K)) | (refine WQ.no (by rfl) ?_; (try simp only [Act.put, List.setIfInBounds_toArray, List.set_cons_zero, List.set_cons_succ])))
          refine WQ.nil ?_
          intro pq
          go_wp2
          go_roundw
          case rel => exact ⟨k + 1, by omega, by go_num, gI', gw.out pq⟩
          case measure => simp [intOf]; omega
        · obtain ⟨j, hkj⟩ : ∃ j, k = j + 1 := ⟨k - 1, by omega⟩
          obtain ⟨ad2, e2, _, hc2⟩ := hat.out j (by omega)
          injection e2 with e2
          subst e2
          obtain ⟨x2, y2, hxy2⟩ : ∃ x y, tz l j = (x, y) := ⟨_, _, rfl⟩
          rw [hxy2] at hc2
          have f2 : ∀ q : Bw wr.heap.size wr, q.w.cell? (ad.add (j * 2)) = some (.int .i64 x2) := fun q => (hc2 q.w (gw.out q)).1
          have f3 : ∀ q : Bw wr.heap.size wr, q.w.cell? ⟨(ad.add (j * 2)).block, (ad.add (j * 2)).off + 1, none⟩ = some (.int .i64 y2) := fun q => (hc2 q.w (gw.out q)).2
          obtain ⟨P, hP⟩ : ∃ P, ahd (x2, y2) (x, y) = P := ⟨_, rfl⟩
          have hca : ∀ q : Bw wr.heap.size wr, Calls Try.prog 40 #[.agg #[.int .i64 x2, .int .i64 y2], .agg #[.int .i64 x, .int .i64 y]] q.w fun en w' => en = .returned (.bool P) ∧ ∃ q' : Bw wr.heap.size wr, w' = q'.w := fun q => Calls.bw (rahead_any x2 y2 x y q.w P hP) (Nat.le_refl _)
          have gP : Hid (ahd (tz l (k - 1)) (tz l k) = P) := Lib.hid (by rw [show k - 1 = j by omega, hxy2, gxy.out]; exact hP)
          have k1 : (0 : Int) ≤ j := by omega
          have k2 : (j : Int) < n := by omega
          have k3 : decide ((0 : Int) < (k : Int)) = true := decide_eq_true (by omega)
          have k6 : decide (0 < k) = true := decide_eq_true h0
          have k4 : IntKind.i64.wrap ((k : Int) - 1) = j := by rw [hkj]; simp [IntKind.wrap, IntKind.bits, IntKind.signed]; omega
          clear hc2 hP hxy2 hkj h0
          cases P with
          | false =>
            have g8 := Lib.hid (gbad.out k hlt (.inr ⟨of_decide_eq_true k6, gP.out⟩))
            clear gQ gI gbad ggood hat gP
            go_wp2_with fail
            refine wp_region_wq wr.heap.size wr hBr (by kernel_rfl) (by kernel_rfl) ?_
            repeat (first | (refine WQ.yes (by rfl) (fun K hK => ?_); go_simp; first | (refine hK _ ?_; clear hK K) | (apply Exists.intro; refine ⟨fun _ => ?_, hK _ ?_⟩; (first | exact hcm _ | exact hca _); clear hK K)) | (refine WQ.no (by rfl) ?_; (try simp only [Act.put, List.setIfInBounds_toArray, List.set_cons_zero, List.set_cons_succ])))
            refine WQ.nil ?_
            intro pq
            go_wp2
            go_ret
            exact ⟨by rw [g8.out]; rfl, gw.out pq⟩
          | true =>
            have gI' : Hid (∀ i, i < k + 1 → mayT (tz l i) = true ∧ (0 < i → ahd (tz l (i - 1)) (tz l i) = true)) := Lib.hid (fun i hi => by
              rcases Nat.lt_or_ge i k with h1 | h1
              · exact gI.out i h1
              · obtain rfl : i = k := by omega
                exact ⟨gQ.out, fun _ => gP.out⟩)
            clear gQ gI gbad ggood hat gP
            go_wp2_with fail
            refine wp_region_wq wr.heap.size wr hBr (by kernel_rfl) (by kernel_rfl) ?_
            repeat (first | (refine WQ.yes (by rfl) (fun K hK => ?_); go_simp; first | (refine hK _ ?_; clear hK K) | (apply Exists.intro; refine ⟨fun _ => ?_, hK _ ?_⟩; (first | exact hcm _ | exact hca _); clear hK K)) | (refine WQ.no (by rfl) ?_; (try simp only [Act.put, List.setIfInBounds_toArray, List.set_cons_zero, List.set_cons_succ])))
            refine WQ.nil ?_
            intro pq
            go_wp2
            go_roundw
            case rel => exact ⟨k + 1, by omega, by go_num, gI', gw.out pq⟩
            case measure => simp [intOf]; omega
    · obtain rfl : k = n := by omega
      have g0 : Hid (E = 0) := Lib.hid (ggood.out gI.out)
      clear hat gI gbad ggood
      go_wp2
      go_ret
      exact ⟨by rw [g0.out]; rfl, hB⟩
end Go.Proofs.Ythageikchniahaa
