/- Frame: the contract of the reference's Take, where it takes. | Mail: the reference's small ones | Mail: the reference's May of any mail | Mail: what UH, UI, UL lean on | Mail: the reference's zero, Same and Great of any mail | Mail: the reference's Same and May of any mail, as the mail's own laws -/
import Derived.Deep.RegionHeld3
import Derived.StillTailTactics
import Derived.Deep.QuietTactic
import Derived.BigQuiet
import Derived.Test.YtjmhefkmpfkpbaaZPW
import Derived.Test.YtjmhefkmpfkpbaaZLL
import Derived.Test.YtjmhefkmpfkpbaaZR
import Derived.Test.YtjmhefkmpfkpbaaKA
import Derived.Test.YtjmhefkmpfkpbaaGX
import Derived.Test.YtjmhefkmpfkpbaaFR
import Derived.Test.YtjmhefkmpfkpbaaPIJ
namespace Go.Proofs.Ytjmhefkmpfkpbaa
open Go.ChangeShapes Go.WideShapes Go.ChangeAt Go.RowKit
set_option linter.unusedSimpArgs false
set_option linter.unusedVariables false
set_option maxRecDepth 100000 in
set_option maxHeartbeats 4000000 in
theorem rtake_ok (ad : Addr) (n c : Nat) (l : List Nat) (hnl : l.length = n) (hn : 9 ≤ n) (hm : n ≤ 10000) (hc : n ≤ c) (hl : ∀ b ∈ l, b < 256) (w : World) (hR : Reads w w.heap.size 1 (some ad) n (bytes l)) (hsu : l.drop (n - 4) = told (crc (l.take (n - 4)))) (hf : l.getD 0 0 = 72 ∧ l.getD 1 0 = 1 ∧ l.getD 3 0 * 256 + l.getD 4 0 = n - 9 ∧ n - 9 ≤ 4096) :
    Calls Try.prog 35 #[.slice (some ad) n c] w (TakePost w l) := by
  have h1 : decide ((n : Int) < 9) = false := by simp; omega
  have e3 : IntKind.i64.wrap ((n : Int) - 4) = (n : Int) - 4 := IntWalk.i64_in _ (by omega)
  have e5 : IntKind.i64.wrap ((n : Int) - 3) = (n : Int) - 3 := IntWalk.i64_in _ (by omega)
  have e7 : IntKind.i64.wrap ((n : Int) - 2) = (n : Int) - 2 := IntWalk.i64_in _ (by omega)
  have e8 : IntKind.i64.wrap ((n : Int) - 1) = (n : Int) - 1 := IntWalk.i64_in _ (by omega)
  have e9 : IntKind.i64.wrap ((n : Int) - 9) = (n : Int) - 9 := IntWalk.i64_in _ (by omega)
  have p4 : ((n : Int) - 4).toNat = n - 4 := by omega
  have p3 : ((n : Int) - 3).toNat = n - 3 := by omega
  have p2 : ((n : Int) - 2).toNat = n - 2 := by omega
  have p1 : ((n : Int) - 1).toNat = n - 1 := by omega
  have q4 : (4 : Int) ≤ n := by omega
  have q3 : (3 : Int) ≤ n := by omega
  have q2 : (2 : Int) ≤ n := by omega
  have q1 : (1 : Int) ≤ n := by omega
  have r4 : ((n : Int) - 4) ≤ c := by omega
  have hl2 : ∀ b ∈ l.take (n - 4), b < 256 := fun b hb => hl b (List.mem_of_mem_take hb)
  have hcr := crc_lt (l.take (n - 4))
  have hti := told_iff (s := crc (l.take (n - 4))) hnl hn
  have hRt := hR.take_ (k := n - 4) (by omega)
  rw [show (bytes l).take (n - 4) = bytes (l.take (n - 4)) from (List.map_take ..).symm] at hRt
  have hlt : (l.take (n - 4)).length = n - 4 := by simp; omega
  have hcell : ∀ i, i < n → w.cell? (ad.add i) = some (.int .u8 ((l.getD i 0 : Nat) : Int)) := fun i hi => by
    obtain ⟨ad', e, hb, hx⟩ := hR.2 (by omega)
    injection e with e
    subst e
    exact hx i _ (by rw [List.getElem?_map, List.getElem?_eq_getElem (by omega)]; simp [List.getD_eq_getElem?_getD, List.getElem?_eq_getElem (show i < l.length by omega)])
  have hlt8 : ∀ i, i < n → l.getD i 0 < 256 := fun i hi => by rw [List.getD_eq_getElem?_getD, List.getElem?_eq_getElem (by omega)]; exact hl _ (List.getElem_mem _)
  have k4 := hcell (n - 4) (by omega)
  have k3 := hcell (n - 3) (by omega)
  have k2 := hcell (n - 2) (by omega)
  have k1 := hcell (n - 1) (by omega)
  obtain ⟨s, hs⟩ : ∃ s, crc (l.take (n - 4)) = s := ⟨_, rfl⟩
  rw [hs] at hti hcr
  have t4 : ((s : Int) / 16777216) % 256 = (s : Int) / 16777216 := by omega
  rw [hs] at hsu
  rw [hti] at hsu
  obtain ⟨y0, y1, y2, y3⟩ := hsu
  have c0 := hcell 0 (by omega)
  rw [Addr.add_zero'] at c0
  have c1 := hcell 1 (by omega)
  rw [show ad.add 1 = ⟨ad.block, ad.off + 1, none⟩ from rfl] at c1
  have c2 := hcell 2 (by omega)
  rw [show ad.add 2 = ⟨ad.block, ad.off + 2, none⟩ from rfl] at c2
  have c3 := hcell 3 (by omega)
  rw [show ad.add 3 = ⟨ad.block, ad.off + 3, none⟩ from rfl] at c3
  have c4 := hcell 4 (by omega)
  rw [show ad.add 4 = ⟨ad.block, ad.off + 4, none⟩ from rfl] at c4
  have hb3 := hlt8 3 (by omega)
  have hb4 := hlt8 4 (by omega)
  have i0 : (0 : Int) < n := by omega
  have i1 : (1 : Int) < n := by omega
  have i2 : (2 : Int) < n := by omega
  have i3 : (3 : Int) < n := by omega
  have i4 : (4 : Int) < n := by omega
  clear hcell hlt8 hti
  generalize l.getD (n - 4) 0 = t0 at *
  generalize l.getD (n - 3) 0 = t1 at *
  generalize l.getD (n - 2) 0 = t2 at *
  generalize l.getD (n - 1) 0 = t3 at *
  have z0 : ((t0 : Int) != (s : Int) % 256) = false := by simp; omega
  have z1 : ((t1 : Int) != (s : Int) / 256 % 256) = false := by simp; omega
  have z2 : ((t2 : Int) != (s : Int) / 65536 % 256) = false := by simp; omega
  have z3 : ((t3 : Int) != (s : Int) / 16777216) = false := by simp; omega
  clear y0 y1 y2 y3
  obtain ⟨i0v, hinf, hz0, hz1, hz2⟩ := info_parts infoB8
  have hct : (content l).length = n - 9 := by simp [content]; omega
  have hRc : Reads w w.heap.size 1 (some ⟨ad.block, ad.off + 5, none⟩) (n - 9) (bytes (content l)) := by
    have := (hR.drop_ (k := 5) (by omega)).take_ (k := n - 9) (by omega)
    rw [show (bytes l).drop 5 = bytes (l.drop 5) from (List.map_drop ..).symm, show (bytes (l.drop 5)).take (n - 9) = bytes ((l.drop 5).take (n - 9)) from (List.map_take ..).symm, ← hnl] at this
    rw [← hnl]
    exact this
  generalize hcon : content l = con at *
  generalize l.getD 0 0 = b0 at *
  generalize l.getD 1 0 = b1 at *
  generalize hg2 : l.getD 2 0 = b2 at *
  generalize l.getD 3 0 = b3 at *
  generalize l.getD 4 0 = b4 at *
  have m1 : IntKind.i64.wrap (256 * (b3 : Int)) = 256 * (b3 : Int) := IntWalk.i64_in _ (by omega)
  have m2 : IntKind.i64.wrap (256 * (b3 : Int) + (b4 : Int)) = 256 * (b3 : Int) + (b4 : Int) := IntWalk.i64_in _ (by omega)
  obtain ⟨f0, f1, f3, f4⟩ := hf
  have x0 : ((b0 : Int) != 72) = false := by simp; omega
  have x1 : ((b1 : Int) != 1) = false := by simp; omega
  have x2 : (256 * (b3 : Int) + (b4 : Int) != (n : Int) - 9) = false := by simp; omega
  have x3 : decide ((4096 : Int) < (n : Int) - 9) = false := by simp; omega
  have hadb : ad.block < w.heap.size := by
    obtain ⟨ad', e, hb, _⟩ := hR.2 (by omega)
    injection e with e
    subst e
    exact hb
  have TT : ∀ w', Below w.heap.size w w' → Below w.heap.size w w' ∧ w'.cell? ⟨ad.block, ad.off + 2, none⟩ = some (.int .u8 (b2 : Int)) ∧ Reads w' w.heap.size 1 (some ⟨ad.block, ad.off + 5, none⟩) (n - 9) (bytes con) := fun w' hb => ⟨hb, (hb.cell (p := ⟨ad.block, ad.off + 2, none⟩) hadb).trans c2, hRc.below hb⟩
  have g1 : n - 4 - 5 = n - 9 := by omega
  have g2 : (5 : Int) ≤ (n : Int) - 4 := by omega
  have g4 : (9 : Int) ≤ n := by omega
  clear f0 f1 f3 f4
  go_enter Try.func35, Try.ntmps35
  go_wp2_with fail
  refine (rsum_n (some ad) (n - 4) c w.heap.size (l.take (n - 4)) hlt hl2 (by omega) _ hRt).mono ?_
  rintro en w2 ⟨rfl, rfl⟩
  rw [hs]
  clear hRt hR hs hlt hl2
  go_wp2_with fail
  go_quiet (fail)
  go_wp2_with fail
  rename_i K0 hK0
  have hW : Below w.heap.size w (w.drewN nq) := below_drewN (Below.refl _ _) _
  generalize w.drewN nq = W at *
  refine wp_region_held_drew (S := (fun w' => Below w.heap.size w w' ∧ w'.cell? ⟨ad.block, ad.off + 2, none⟩ = some (.int .u8 (b2 : Int)) ∧ Reads w' w.heap.size 1 (some ⟨ad.block, ad.off + 5, none⟩) (n - 9) (bytes con))) (by kernel_rfl) (TT _ (Below.drew hW)) (fun hHeld => ?_)
  refine wpAnyH_take (i := 0) (v := ?_) rfl (by kernel_rfl) (by kernel_rfl) (by kernel_rfl) (fun _ _ _ h => h) (Or.inl ⟨by rfl, ?_⟩) (by assumption) ?_
  rotate_left
  · (intro w hSw; (try dsimp only at hSw); go_simp; (try with_reducible rfl))
  (try simp only [Act.put, lsA, lsZ, lsS])
  refine wpAnyH_take (i := 1) (v := ?_) rfl (by kernel_rfl) (by kernel_rfl) (by kernel_rfl) (fun _ _ _ h => h) (Or.inl ⟨by rfl, ?_⟩) (by assumption) ?_
  rotate_left
  · (intro w hSw; (try dsimp only at hSw); go_simp; (try with_reducible rfl))
  (try simp only [Act.put, lsA, lsZ, lsS])
  refine wpAnyH_take (i := 2) (v := ?_) rfl (by kernel_rfl) (by kernel_rfl) (by kernel_rfl) (fun _ _ _ h => h) (Or.inl ⟨by rfl, ?_⟩) (by assumption) ?_
  rotate_left
  · (intro w hSw; (try dsimp only at hSw); go_simp; (try with_reducible rfl))
  (try simp only [Act.put, lsA, lsZ, lsS])
  refine wpAnyH_take (i := 4) (v := ?_) rfl (by kernel_rfl) (by kernel_rfl) (by kernel_rfl) (fun _ _ _ h => h) (Or.inl ⟨by rfl, ?_⟩) (by assumption) ?_
  rotate_left
  · (intro w hSw; (try dsimp only at hSw); go_simp; (try with_reducible rfl))
  (try simp only [Act.put, lsA, lsZ, lsS])
  refine wpAnyH_take (i := 5) (v := ?_) rfl (by kernel_rfl) (by kernel_rfl) (by kernel_rfl) (fun _ _ _ h => h) (Or.inl ⟨by rfl, ?_⟩) (by assumption) ?_
  rotate_left
  · (intro w hSw; (try dsimp only at hSw); go_simp; (try with_reducible rfl))
  (try simp only [Act.put, lsA, lsZ, lsS])
  refine wpAnyH_take (i := 6) (v := ?_) rfl (by kernel_rfl) (by kernel_rfl) (by kernel_rfl) (fun _ _ _ h => h) (Or.inl ⟨by rfl, ?_⟩) (by assumption) ?_
  rotate_left
  · (intro w hSw; (try dsimp only at hSw); go_simp; (try with_reducible rfl))
  (try simp only [Act.put, lsA, lsZ, lsS])
  refine wpAnyH_take (i := 7) (v := ?_) rfl (by kernel_rfl) (by kernel_rfl) (by kernel_rfl) (fun _ _ _ h => h) (Or.inl ⟨by rfl, ?_⟩) (by assumption) ?_
  rotate_left
  · (intro w hSw; (try dsimp only at hSw); go_simp; (try with_reducible rfl))
  (try simp only [Act.put, lsA, lsZ, lsS])
  refine wpAnyH_ready (rs := [3]) (by kernel_rfl) (by simp) ?_
  refine AllReadyH.cons rfl (fun K hK => ?_) AllReadyH.nil
  go_simp
  refine hK.out _ _ (TT _ (Below.alloc (Below.drew hW) hW.size _)) (fun hHeld => ?_)
  clear hK K
  (try simp only [Act.put, lsA, lsZ, lsS])
  refine wpAnyH_ready (rs := [8]) (by kernel_rfl) (by simp) ?_
  refine AllReadyH.cons rfl (fun K hK => ?_) AllReadyH.nil
  refine step_append_any _ rfl (.tmp 90) (.tmp 94) _ rfl w.heap.size 5 i0v _ 1 1 Try.underlying34 hinf hz0 hz1 hz2 rfl (by omega) (.slice (some ⟨W.drew.heap.size, 0, none⟩) 0 0) 0 [] rfl (owns_new W.drew w.heap.size hW.size [] 5 0 rfl (by unfold maxLen; omega)) w.heap.size (some ⟨ad.block, ad.off + 5, none⟩) (n - 9) (c - 5) (bytes con) ?_ (TT _ (Below.alloc (Below.drew hW) hW.size _)).2.2 (bytes_one con) (by unfold maxLen; omega) (by omega) (by have := hW.size; simp; omega) ?_
  · (go_simp; (try (intro h5; omega)))
  intro v2 w2 hown2 hgw2 hat2
  simp only [Nat.zero_add, List.nil_append] at hown2
  have hBel2 : Below w.heap.size w w2 := (Below.alloc (Below.drew hW) hW.size _).grown hgw2 (by have := hW.size; simp; omega) (by intro q hq; simp [Value.ownBlock] at hq; have := hW.size; omega)
  refine hK.out _ _ (TT _ hBel2) (fun hHeld => ?_)
  clear hK K
  (try simp only [Act.put, lsA, lsZ, lsS])
  refine wpAnyH_ready (rs := [9]) (by kernel_rfl) (by simp) ?_
  refine AllReadyH.cons rfl (fun K hK => ?_) AllReadyH.nil
  go_simp
  refine hK.out _ _ (TT _ hBel2) (fun hHeld => ?_)
  clear hK K
  (try simp only [Act.put, lsA, lsZ, lsS])
  refine wpAnyH_ready (rs := [10]) (by kernel_rfl) (by simp) ?_
  refine AllReadyH.cons rfl (fun K hK => ?_) AllReadyH.nil
  go_simp
  refine hK.out _ _ (TT _ hBel2) (fun hHeld => ?_)
  clear hK K
  (try simp only [Act.put, lsA, lsZ, lsS])
  refine wpAnyH_ready (rs := [11]) (by kernel_rfl) (by simp) ?_
  refine AllReadyH.cons rfl (fun K hK => ?_) AllReadyH.nil
  go_simp
  refine hK.out _ _ (TT _ hBel2) (fun hHeld => ?_)
  clear hK K
  (try simp only [Act.put, lsA, lsZ, lsS])
  refine wpAnyH_done (by kernel_rfl) ?_ _
  first | apply hK0 | skip
  go_wp2
  go_ret3
  exact ⟨v2, by first | (rw [hg2]; done) | (rw [hg2]; rfl), by rw [hcon]; unfold Owns; rw [hct]; exact hown2, hBel2⟩
end Go.Proofs.Ytjmhefkmpfkpbaa
namespace Go.Proofs.Ytjmhefkmpfkpbaa
open Go.ChangeShapes Go.WideShapes Go.ChangeAt Go.RowKit
set_option linter.unusedSimpArgs false
set_option linter.unusedVariables false
set_option maxHeartbeats 4000000 in
theorem redge_any (h : Bool) (x y : Int) (w : World) (R : Bool) (hR : mayE h x y = R) : Calls Try.prog 62 #[.agg #[.bool h, .int .i64 x, .int .i64 y]] w fun en w' => en = .returned (.bool R) ∧ Below w.heap.size w w' := by
  obtain ⟨q0, hq0⟩ : ∃ q, decide (-2147483647 ≤ x) = q := ⟨_, rfl⟩
  obtain ⟨q1, hq1⟩ : ∃ q, decide (x ≤ y) = q := ⟨_, rfl⟩
  obtain ⟨q2, hq2⟩ : ∃ q, decide (y ≤ 2147483647) = q := ⟨_, rfl⟩
  obtain ⟨q3, hq3⟩ : ∃ q, (x == 0) = q := ⟨_, rfl⟩
  obtain ⟨q4, hq4⟩ : ∃ q, (y == 0) = q := ⟨_, rfl⟩
  have hB := (Below.refl w.heap.size w).alloc (Nat.le_refl _) (.cells #[.bool h, .int .i64 x, .int .i64 y] 29)
  unfold mayE at hR
  simp only [hq0, hq1, hq2, hq3, hq4] at hR
  subst hR
  cases h
  · clear hq0 hq1 hq2
    cases q3 <;> cases q4
    all_goals
      go_enter Try.func62, Try.ntmps62
      go_wp2
      go_ret
      exact ⟨rfl, hB⟩
  · clear hq3 hq4
    cases q0 <;> cases q1 <;> cases q2
    all_goals
      go_enter Try.func62, Try.ntmps62
      go_wp2
      go_ret
      exact ⟨rfl, hB⟩
set_option maxHeartbeats 4000000 in
theorem rone_any (a b : Int) (w : World) (R : Bool) (hR : mayT (a, b) = R) : Calls Try.prog 87 #[.agg #[.int .i64 a, .int .i64 b]] w fun en w' => en = .returned (.bool R) ∧ Below w.heap.size w w' := by
  obtain ⟨q0, hq0⟩ : ∃ q, decide (0 ≤ a) = q := ⟨_, rfl⟩
  obtain ⟨q1, hq1⟩ : ∃ q, decide (a < 8) = q := ⟨_, rfl⟩
  obtain ⟨q2, hq2⟩ : ∃ q, decide (0 ≤ b) = q := ⟨_, rfl⟩
  obtain ⟨q3, hq3⟩ : ∃ q, decide (b ≤ 2147483647) = q := ⟨_, rfl⟩
  have hB := (Below.refl w.heap.size w).alloc (Nat.le_refl _) (.cells #[.int .i64 a, .int .i64 b] 73)
  unfold mayT at hR
  simp only [hq0, hq1, hq2, hq3] at hR
  subst hR
  cases q0 <;> cases q1 <;> cases q2 <;> cases q3
  all_goals
    go_enter Try.func87, Try.ntmps87
    go_wp2
    go_ret
    exact ⟨rfl, hB⟩
theorem rflag_any (b : Bool) (w : World) : Calls Try.prog 90 #[.bool b] w fun en w' => en = .returned (.int .u64 (if b then 1 else 0)) ∧ w = w' := by
  cases b
  all_goals
    go_enter Try.func90, Try.ntmps90
    go_wp2
    go_ret
    exact ⟨rfl, rfl⟩
set_option maxHeartbeats 4000000 in
theorem rdcheck_any (A : Option Addr) (n c : Nat) (l : List Tm) (hn : n ≤ 5000) (w : World) (h : Tms w w.heap.size A n l) (E : Int) (hE : chkD l = E) : Calls Try.prog 61 #[.slice A n c] w fun en w' => en = .returned (.int .i64 E) ∧ Below w.heap.size w w' := by
  have hl := h.1
  unfold chkD at hE
  rw [hl] at hE
  have hB0 := Below.refl w.heap.size w
  by_cases h64 : 64 < n
  · rw [if_pos h64] at hE
    subst hE
    have d1 : decide ((64 : Int) < (n : Int)) = true := decide_eq_true (by omega)
    have d2 : decide (64 < n) = true := decide_eq_true h64
    clear h hl
    go_enter Try.func61, Try.ntmps61
    go_wp2
    go_ret
    exact ⟨rfl, hB0⟩
  · rw [if_neg h64] at hE
    have d1 : decide ((64 : Int) < (n : Int)) = false := decide_eq_false (by omega)
    have d2 : decide (64 < n) = false := decide_eq_false h64
    have gno : Hid (∀ k, k < n → mayT (tz l k) = false → E = 8) := Lib.hid (fun k hk hm => by
      rw [← hE, if_pos]
      rw [List.any_eq_true]
      exact ⟨tz l k, List.mem_of_getElem? (tz_lt (by omega)), by rw [hm]; rfl⟩)
    have gyes : Hid ((∀ j, j < n → mayT (tz l j) = true) → E = 0) := Lib.hid (fun hj => by
      rw [← hE, if_neg]
      intro ha
      rw [List.any_eq_true] at ha
      obtain ⟨x, hx, hm⟩ := ha
      obtain ⟨i, hi, rfl⟩ := List.getElem_of_mem hx
      have := hj i (by omega)
      rw [tz_some (List.getElem?_eq_getElem hi)] at this
      rw [this] at hm
      cases hm)
    have hat : Hid (∀ k, k < n → ∃ ad, A = some ad ∧ ad.block < w.heap.size ∧ ∀ w', Below w.heap.size w w' → w'.cell? (ad.add (k * 2)) = some (.int .i64 (tz l k).1) ∧ w'.cell? ⟨(ad.add (k * 2)).block, (ad.add (k * 2)).off + 1, none⟩ = some (.int .i64 (tz l k).2)) := Lib.hid (fun k hk => h.at_ hk)
    clear h hl hE
    go_enter Try.func61, Try.ntmps61
    go_wp2
    go_loopw [3] (fun t wr => ∃ (k : Nat), k ≤ n ∧ t = .int .i64 (k : Int) ∧ Hid (∀ j, j < k → mayT (tz l j) = true) ∧ Below w.heap.size w wr) (fun t _ => n - (intOf t).toNat)
    case atStart => exact ⟨0, Nat.zero_le _, rfl, Lib.hid (fun j hj => by omega), hB0⟩
    case round =>
      clear hB0 d1 d2 h64
      obtain ⟨k, hk, rfl, gI, hB⟩ := hrel
      by_cases hlt : k < n
      · obtain ⟨ad, rfl, hab, hc⟩ := hat.out k hlt
        obtain ⟨c0, c1⟩ := hc wr hB
        have i1 : (0 : Int) ≤ k := by omega
        have i2 : (k : Int) < n := by omega
        obtain ⟨Q, hQ⟩ : ∃ Q, mayT (tz l k) = Q := ⟨_, rfl⟩
        have hf := rone_any (tz l k).1 (tz l k).2 wr Q hQ
        have gQ := Lib.hid hQ
        clear hQ
        generalize hx : (tz l k).1 = x at c0 c1 hf
        generalize hy : (tz l k).2 = y at c0 c1 hf
        clear hc hx hy
        cases Q with
        | false =>
          obtain rfl := gno.out k hlt gQ.out
          clear gno gyes hat gI gQ
          go_wp2_with fail
          refine hf.mono ?_
          rintro en w2 ⟨rfl, hb2⟩
          go_wp2
          go_ret
          exact ⟨rfl, hB.trans (hb2.mono hB.size)⟩
        | true =>
          have gI' := Lib.hid (fun j (hj : j < k + 1) => show mayT (tz l j) = true from by
            rcases Nat.lt_or_ge j k with h1 | h1
            · exact gI.out j h1
            · rw [show j = k by omega]; exact gQ.out)
          clear gI gQ
          go_wp2_with fail
          refine hf.mono ?_
          rintro en w2 ⟨rfl, hb2⟩
          go_wp2
          go_roundw
          case rel => exact ⟨k + 1, by omega, by go_num, gI', hB.trans (hb2.mono hB.size)⟩
          case measure => simp [intOf] <;> omega
      · obtain rfl : k = n := by omega
        obtain rfl := gyes.out gI.out
        clear hat gno gyes gI
        go_wp2
        go_ret
        exact ⟨rfl, hB⟩
set_option maxHeartbeats 4000000 in
theorem rdssame_any (A A2 : Option Addr) (n n2 c c2 B B2 : Nat) (a b : List Tm) (hm : n ≤ 100000) (w : World) (hR : Tms w B A n a) (hR2 : Tms w B2 A2 n2 b) :
    Calls Try.prog 47 #[.slice A n c, .slice A2 n2 c2] w fun en w' => en = .returned (.bool (decide (a = b))) ∧ ∃ m, w' = w.drewN m := by
  have hn := hR.1
  have hn2 := hR2.1
  by_cases hlen : n = n2
  · subst hlen
    have no : ∀ k, k < n → tz a k ≠ tz b k → decide (a = b) = false := fun k _ h => decide_eq_false (fun e => h (by rw [e]))
    have yes : (∀ k, k < n → tz a k = tz b k) → decide (a = b) = true := fun h => decide_eq_true (by
      apply List.ext_getElem (by omega)
      intro i h1 h2
      have := h i (by omega)
      rwa [tz_some (List.getElem?_eq_getElem h1), tz_some (List.getElem?_eq_getElem h2)] at this)
    obtain ⟨R, hRr⟩ : ∃ R, decide (a = b) = R := ⟨_, rfl⟩
    rw [hRr] at no yes ⊢
    have gno := Lib.hid no
    have gyes := Lib.hid yes
    have gR := Lib.hid hR
    have gR2 := Lib.hid hR2
    have t1 : ((n : Int) != n) = false := by simp
    clear no yes hRr hn hn2 hR hR2
    go_enter Try.func47, Try.ntmps47
    go_wp2
    go_loopw [5] (fun t wr => ∃ k m : Nat, k ≤ n ∧ t = .int .i64 (k : Int) ∧ Hid (∀ j, j < k → tz a j = tz b j) ∧ wr = w.drewN m) (fun t _ => n - (intOf t).toNat)
    case atStart => exact ⟨0, 0, Nat.zero_le _, rfl, Lib.hid (fun j h1 => by omega), rfl⟩
    case round =>
      obtain ⟨k, m, hk, rfl, h0, rfl⟩ := hrel
      by_cases hlt : k < n
      · obtain ⟨ad, rfl, hab, hc⟩ := gR.out.at_ hlt
        obtain ⟨ad2, rfl, hab2, hc2⟩ := gR2.out.at_ hlt
        obtain ⟨a0, a1⟩ := hc w (Below.refl _ _)
        obtain ⟨b0, b1⟩ := hc2 w (Below.refl _ _)
        have i1 : (0 : Int) ≤ k := by omega
        have i2 : (k : Int) < n := by omega
        obtain ⟨x, hx⟩ : ∃ x, tz a k = x := ⟨_, rfl⟩
        obtain ⟨y, hy⟩ : ∃ y, tz b k = y := ⟨_, rfl⟩
        rw [hx] at a0 a1
        rw [hy] at b0 b1
        by_cases h : x = y
        · subst h
          have h0' : Hid (∀ i, i < k + 1 → tz a i = tz b i) := Lib.hid (fun i h1 => by
            rcases Nat.lt_or_ge i k with h3 | h3
            · exact h0.out i h3
            · rw [show i = k by omega, hx, hy])
          obtain ⟨x1, x2⟩ := x
          simp only at a0 a1 b0 b1
          clear hx hy gR gR2 gno gyes h0 hc hc2
          go_wp2_with fail
          go_quiet (fail)
          go_wp2
          go_roundw
          case rel => exact ⟨k + 1, _, by omega, by go_num, h0', rfl⟩
          case measure => simp [intOf] <;> omega
        · obtain rfl := gno.out k hlt (by rw [hx, hy]; exact h)
          obtain ⟨x1, x2⟩ := x
          obtain ⟨y1, y2⟩ := y
          simp only at a0 a1 b0 b1
          have h12 : ¬ (x1 = y1 ∧ x2 = y2) := fun e => h (by rw [e.1, e.2])
          obtain ⟨q1, hq1⟩ : ∃ q, (x1 == y1) = q := ⟨_, rfl⟩
          obtain ⟨q2, hq2⟩ : ∃ q, (x2 == y2) = q := ⟨_, rfl⟩
          have hqq : (q1 && q2) = false := by
            rw [← hq1, ← hq2]
            simp only [Bool.and_eq_false_iff, beq_eq_false_iff_ne]
            by_cases e : x1 = y1
            · exact .inr (fun e2 => h12 ⟨e, e2⟩)
            · exact .inl e
          clear hx hy gR gR2 gyes h0 gno hc hc2 h h12
          cases q1 <;> cases q2
          case true.true => cases hqq
          all_goals
            clear hqq
            go_wp2_with fail
            go_quiet (fail)
            go_wp2
            go_ret
            refine ⟨rfl, ?_⟩
            simp only [World.drewN_drewN]
            exact ⟨_, rfl⟩
      · obtain rfl : k = n := by omega
        obtain rfl := gyes.out h0.out
        clear gR gR2 gno gyes h0
        go_wp2
        go_ret
        exact ⟨rfl, m, rfl⟩
  · rw [decide_eq_false (show ¬ a = b from fun e => hlen (by rw [← hn, ← hn2, e]))]
    have t1 : ((n : Int) != n2) = true := by simp; omega
    have t2 : (n != n2) = true := by simpa using hlen
    clear hR hR2 hn hn2
    go_enter Try.func47, Try.ntmps47
    go_wp2
    go_ret
    exact ⟨rfl, 0, rfl⟩
set_option maxHeartbeats 4000000 in
theorem rtags_any (A A2 : Option Addr) (n n2 c c2 B B2 : Nat) (a b : List Nat) (hn : a.length = n) (hn2 : b.length = n2) (hm : n ≤ 100000) (hm2 : n2 ≤ 100000) (w : World) (hR : Reads w B 1 A n (ints .u32 a)) (hR2 : Reads w B2 1 A2 n2 (ints .u32 b)) :
    Calls Try.prog 48 #[.slice A n c, .slice A2 n2 c2] w fun en w' => en = .returned (.bool (decide (a = b))) ∧ ∃ m, w' = w.drewN m := by
  by_cases hlen : n = n2
  · subst hlen
    have no : ∀ k, k < n → a.getD k 0 ≠ b.getD k 0 → decide (a = b) = false := fun k _ h => decide_eq_false (fun e => h (by rw [e]))
    have yes : (∀ k, k < n → a.getD k 0 = b.getD k 0) → decide (a = b) = true := fun h => decide_eq_true (by
      apply List.ext_getElem (by omega)
      intro i h1 h2
      have := h i (by omega)
      rw [List.getD_eq_getElem?_getD, List.getD_eq_getElem?_getD, List.getElem?_eq_getElem h1, List.getElem?_eq_getElem h2] at this
      exact this)
    obtain ⟨R, hRr⟩ : ∃ R, decide (a = b) = R := ⟨_, rfl⟩
    rw [hRr] at no yes ⊢
    have gno := Lib.hid no
    have gyes := Lib.hid yes
    have gn := Lib.hid hn
    have gn2 := Lib.hid hn2
    have t1 : ((n : Int) != n) = false := by simp
    clear no yes hRr hn hn2
    go_enter Try.func48, Try.ntmps48
    go_wp2
    go_loopw [5] (fun t wr => ∃ k m : Nat, k ≤ n ∧ t = .int .i64 (k : Int) ∧ Hid (∀ j, j < k → a.getD j 0 = b.getD j 0) ∧ wr = w.drewN m) (fun t _ => n - (intOf t).toNat)
    case atStart => exact ⟨0, 0, Nat.zero_le _, rfl, Lib.hid (fun j h1 => by omega), rfl⟩
    case round =>
      obtain ⟨k, m, hk, rfl, h0, rfl⟩ := hrel
      by_cases hlt : k < n
      · obtain ⟨ad, rfl, hab, cA⟩ := at_ints gn.out hR hlt
        obtain ⟨ad2, rfl, hab2, cA2⟩ := at_ints gn2.out hR2 hlt
        have i1 : (0 : Int) ≤ k := by omega
        have i2 : (k : Int) < n := by omega
        obtain ⟨x, hx⟩ : ∃ x, a.getD k 0 = x := ⟨_, rfl⟩
        obtain ⟨y, hy⟩ : ∃ y, b.getD k 0 = y := ⟨_, rfl⟩
        rw [hx] at cA
        rw [hy] at cA2
        by_cases h : x = y
        · subst h
          have h0' : Hid (∀ i, i < k + 1 → a.getD i 0 = b.getD i 0) := Lib.hid (fun i h1 => by
            rcases Nat.lt_or_ge i k with h3 | h3
            · exact h0.out i h3
            · rw [show i = k by omega, hx, hy])
          have t2 : ((x : Int) != x) = false := by simp
          clear hx hy hR hR2 gno gyes h0 gn gn2
          go_wp2_with fail
          go_quiet (fail)
          go_wp2
          go_roundw
          case rel => exact ⟨k + 1, _, by omega, by go_num, h0', rfl⟩
          case measure => simp [intOf] <;> omega
        · obtain rfl := gno.out k hlt (by rw [hx, hy]; exact h)
          have t2 : ((x : Int) != y) = true := by simp; omega
          have t4 : (x != y) = true := by simp; omega
          clear hx hy hR hR2 gyes h0 gn gn2 gno
          go_wp2_with fail
          go_quiet (fail)
          go_wp2
          go_ret
          refine ⟨rfl, ?_⟩
          simp only [World.drewN_drewN]
          exact ⟨_, rfl⟩
      · obtain rfl : k = n := by omega
        obtain rfl := gyes.out h0.out
        clear hR hR2 gno gyes h0 gn gn2
        go_wp2
        go_ret
        exact ⟨rfl, m, rfl⟩
  · rw [decide_eq_false (show ¬ a = b from fun e => hlen (by rw [← hn, ← hn2, e]))]
    have t1 : ((n : Int) != n2) = true := by simp; omega
    have t2 : (n != n2) = true := by simpa using hlen
    clear hR hR2 hn hn2
    go_enter Try.func48, Try.ntmps48
    go_wp2
    go_ret
    exact ⟨rfl, 0, rfl⟩
set_option maxHeartbeats 4000000 in
theorem rleast_any (A : Option Addr) (n c B : Nat) (l : List Nat) (hn : l.length = n) (hm : n ≤ 100000) (w : World) (hR : Reads w B 1 A n (ints .u32 l)) :
    Calls Try.prog 63 #[.slice A n c] w fun en w' => ∃ R : Bool, en = .returned (.bool R) ∧ (R = true ↔ (rises l ∧ l.length ≤ 8)) ∧ ∃ m, w' = w.drewN m := by
  have gn := Lib.hid hn
  have gR := Lib.hid hR
  clear hn hR
  go_enter Try.func63, Try.ntmps63
  go_wp2
  go_loopw [3] (fun t wr => ∃ K m : Nat, 1 ≤ K ∧ K ≤ n + 1 ∧ t = .int .i64 (K : Int) ∧ Hid (∀ j, j + 1 < K → j + 1 < n → l.getD j 0 < l.getD (j + 1) 0) ∧ wr = w.drewN m) (fun t _ => n + 1 - (intOf t).toNat)
  case atStart => exact ⟨1, 0, Nat.le_refl _, by omega, rfl, Lib.hid (fun j h1 => by omega), rfl⟩
  case round =>
    obtain ⟨K, m, hK1, hk, rfl, h0, rfl⟩ := hrel
    by_cases hlt : K < n
    · obtain ⟨k, hkK⟩ : ∃ k, K = k + 1 := ⟨K - 1, by omega⟩
      obtain ⟨ad, rfl, hab, cA⟩ := at_ints gn.out gR.out hlt
      obtain ⟨ad2, e2, hab2, cA2⟩ := at_ints gn.out gR.out (show k < n by omega)
      injection e2 with e2
      subst e2
      have i1 : (0 : Int) ≤ (K : Int) := by omega
      have i2 : (K : Int) < n := by omega
      have i3 : (0 : Int) ≤ k := by omega
      have i4 : (k : Int) < n := by omega
      have w1 : IntKind.i64.wrap ((K : Int) - 1) = k := by rw [show (K : Int) - 1 = k by omega]; exact IntWalk.i64_in _ (by omega)
      obtain ⟨x, hx⟩ : ∃ x, l.getD K 0 = x := ⟨_, rfl⟩
      obtain ⟨y, hy⟩ : ∃ y, l.getD k 0 = y := ⟨_, rfl⟩
      rw [hx] at cA
      rw [hy] at cA2
      by_cases h : x ≤ y
      · have t1 : decide ((x : Int) ≤ y) = true := decide_eq_true (by omega)
        have t2 : decide (x ≤ y) = true := decide_eq_true h
        have gno : Hid (¬ rises l) := Lib.hid (fun hr => by have := hr k (by rw [gn.out]; omega); rw [← hkK, hx, hy] at this; omega)
        have gk := Lib.hid hkK
        clear hx hy h0 gR hkK hK1
        go_wp2_with fail
        go_quiet (fail)
        go_wp2
        go_ret
        refine ⟨false, rfl, ⟨(fun h => by cases h), fun h => absurd h.1 gno.out⟩, ?_⟩
        simp only [World.drewN_drewN]
        exact ⟨_, rfl⟩
      · have t1 : decide ((x : Int) ≤ y) = false := decide_eq_false (by omega)
        have t2 : decide (x ≤ y) = false := decide_eq_false h
        have h0' : Hid (∀ j, j + 1 < K + 1 → j + 1 < n → l.getD j 0 < l.getD (j + 1) 0) := Lib.hid (fun i h1 h2 => by
          rcases Nat.lt_or_ge i k with h3 | h3
          · exact h0.out i (by omega) h2
          · rw [show i = k by omega, ← hkK, hx, hy]; omega)
        have gk := Lib.hid hkK
        clear hx hy h0 h hkK
        go_wp2_with fail
        go_quiet (fail)
        go_wp2
        go_roundw
        case rel => exact ⟨K + 1, _, by omega, by omega, by go_num, h0', rfl⟩
        case measure => simp [intOf] <;> omega
    · have gr : Hid (rises l) := Lib.hid (fun i hi => h0.out i (by have := gn.out; omega) (by have := gn.out; omega))
      obtain ⟨R, hR⟩ : ∃ R, decide (n ≤ 8) = R := ⟨_, rfl⟩
      have hR2 : decide ((n : Int) ≤ 8) = R := by rw [← hR]; simp; omega
      have gRR := Lib.hid hR
      clear h0
      cases R
      all_goals
        go_wp2
        go_ret
        refine ⟨_, rfl, ?_, m, rfl⟩
        have := gRR.out
        have h2 := gn.out
        have h3 := gr.out
        simp at this
        simp [h3, h2]
        try omega
end Go.Proofs.Ytjmhefkmpfkpbaa
namespace Go.Proofs.Ytjmhefkmpfkpbaa
open Go.ChangeShapes Go.WideShapes Go.ChangeAt Go.RowKit
set_option linter.unusedSimpArgs false
set_option linter.unusedVariables false
set_option maxRecDepth 100000
set_option maxHeartbeats 32000000 in
theorem rmayA (o : MO) (w : World) (Qm Qe Ql Z0 Z1 Z2 Z3 R : Bool) (Ed : Int) (hR : (!(((((((((((((((((decide (o.x.kd < 1)) || (decide (6 < o.x.kd))) || (decide (o.x.fr < 0))) || (decide (8 ≤ o.x.fr))) || (decide (o.x.tt < 0))) || (decide (8 ≤ o.x.tt))) || (decide (o.x.ep < 0))) || (decide (65535 < o.x.ep))) || (decide (o.x.nu < 0))) || (decide (1048575 < o.x.nu))) || (decide (o.x.ab < 0))) || (decide (1048575 < o.x.ab))) || (((o.x.kd != 3) && (o.x.kd != 4)) && (o.x.ab != 0))) || (!Qm)) || (Ed != 0)) || (!Qe)) || (!Ql)) && (!(((o.x.kd != 1) && ((!Z0) || (!Z1))) || (((o.x.kd != 2) && (o.x.kd != 3)) && ((!Z2) || (!Z3)))) && (((o.x.kd == 5) || ((!o.x.wa) && ((o.x.ds.length:Int) == 0))) && ((o.x.kd == 6) || ((!o.x.eh) && ((o.x.ls.length:Int) == 0)))))) = R) (hz0 : ∀ w', Below w.heap.size w w' → Calls Try.prog 64 #[.agg #[.bool o.x.give.s.neg, .slice o.X0 o.x.give.s.ls.length o.c0, .int .i64 o.x.give.s.ex]] w' fun en w'' => en = .returned (.bool Z0) ∧ Below w'.heap.size w' w'') (hz1 : ∀ w', Below w.heap.size w w' → Calls Try.prog 64 #[.agg #[.bool o.x.give.w.neg, .slice o.X1 o.x.give.w.ls.length o.c1, .int .i64 o.x.give.w.ex]] w' fun en w'' => en = .returned (.bool Z1) ∧ Below w'.heap.size w' w'') (hz2 : ∀ w', Below w.heap.size w w' → Calls Try.prog 64 #[.agg #[.bool o.x.give.c.neg, .slice o.X2 o.x.give.c.ls.length o.c2, .int .i64 o.x.give.c.ex]] w' fun en w'' => en = .returned (.bool Z2) ∧ Below w'.heap.size w' w'') (hz3 : ∀ w', Below w.heap.size w w' → Calls Try.prog 64 #[.agg #[.bool o.x.give.a.neg, .slice o.X3 o.x.give.a.ls.length o.c3, .int .i64 o.x.give.a.ex]] w' fun en w'' => en = .returned (.bool Z3) ∧ Below w'.heap.size w' w'') (hm : ∀ w', Below w.heap.size w w' → Calls Try.prog 60 #[.agg #[.bool o.x.give.s.neg, .slice o.X0 o.x.give.s.ls.length o.c0, .int .i64 o.x.give.s.ex, .bool o.x.give.w.neg, .slice o.X1 o.x.give.w.ls.length o.c1, .int .i64 o.x.give.w.ex, .bool o.x.give.c.neg, .slice o.X2 o.x.give.c.ls.length o.c2, .int .i64 o.x.give.c.ex, .bool o.x.give.a.neg, .slice o.X3 o.x.give.a.ls.length o.c3, .int .i64 o.x.give.a.ex]] w' fun en w'' => en = .returned (.bool Qm) ∧ Below w'.heap.size w' w'') (hee : ∀ w', Below w.heap.size w w' → Calls Try.prog 62 #[.agg #[.bool o.x.eh, .int .i64 o.x.e1, .int .i64 o.x.e2]] w' fun en w'' => en = .returned (.bool Qe) ∧ Below w'.heap.size w' w'') (hl : ∀ w', Below w.heap.size w w' → Calls Try.prog 63 #[.slice o.L o.x.ls.length o.lc] w' fun en w'' => en = .returned (.bool Ql) ∧ Below w'.heap.size w' w'') (hdc : ∀ w', Below w.heap.size w w' → Calls Try.prog 61 #[.slice o.D o.x.ds.length o.dc] w' fun en w'' => en = .returned (.int .i64 Ed) ∧ Below w'.heap.size w' w'') : Calls Try.prog 31 #[aggL o] w fun en w' => en = .returned (.bool R) ∧ Below w.heap.size w w' := by
  unfold aggL
  obtain ⟨V, hV⟩ : ∃ V, V = w.alloc (.cells #[.int .u8 o.x.kd, .int .i64 o.x.fr, .int .i64 o.x.tt, .int .i64 o.x.ep, .int .i64 o.x.nu, .int .i64 o.x.ab, .bool o.x.give.s.neg, .slice o.X0 o.x.give.s.ls.length o.c0, .int .i64 o.x.give.s.ex, .bool o.x.give.w.neg, .slice o.X1 o.x.give.w.ls.length o.c1, .int .i64 o.x.give.w.ex, .bool o.x.give.c.neg, .slice o.X2 o.x.give.c.ls.length o.c2, .int .i64 o.x.give.c.ex, .bool o.x.give.a.neg, .slice o.X3 o.x.give.a.ls.length o.c3, .int .i64 o.x.give.a.ex, .bool o.x.wa, .slice o.D o.x.ds.length o.dc, .bool o.x.eh, .int .i64 o.x.e1, .int .i64 o.x.e2, .slice o.L o.x.ls.length o.lc] 31) := ⟨_, rfl⟩
  have hB : Below w.heap.size w V := by rw [hV]; exact (Below.refl _ _).alloc (Nat.le_refl _) _
  have kb : Blk V w.heap.size 31 #[.int .u8 o.x.kd, .int .i64 o.x.fr, .int .i64 o.x.tt, .int .i64 o.x.ep, .int .i64 o.x.nu, .int .i64 o.x.ab, .bool o.x.give.s.neg, .slice o.X0 o.x.give.s.ls.length o.c0, .int .i64 o.x.give.s.ex, .bool o.x.give.w.neg, .slice o.X1 o.x.give.w.ls.length o.c1, .int .i64 o.x.give.w.ex, .bool o.x.give.c.neg, .slice o.X2 o.x.give.c.ls.length o.c2, .int .i64 o.x.give.c.ex, .bool o.x.give.a.neg, .slice o.X3 o.x.give.a.ls.length o.c3, .int .i64 o.x.give.a.ex, .bool o.x.wa, .slice o.D o.x.ds.length o.dc, .bool o.x.eh, .int .i64 o.x.e1, .int .i64 o.x.e2, .slice o.L o.x.ls.length o.lc] := by rw [hV]; exact Blk.new w _ _
  go_enter Try.func31, Try.ntmps31
  go_upto_region 1 with (fail)
  rename_i Q0 K1 k1 K2 k2
  rw [← hV]
  clear hV
  refine wp_region_lit ?_
  refine wpList_sx (l := [(1, gv true (.pointer (some ⟨w.heap.size, 0, none⟩)))]) 172 rfl rfl (allC rfl allN) ?_
  intro a S
  refine qF (fun a S => ?_); refine qL kb (fun a S => ?_); refine qLss (fun a S => ?_); refine qMv (fun a S => ?_); refine qF (fun a S => ?_); refine qL kb (fun a S => ?_); refine qGtr (fun a S => ?_); refine qOr (fun a S => ?_); refine qMv (fun a S => ?_); refine qF (fun a S => ?_); refine qL kb (fun a S => ?_); refine qLss (fun a S => ?_); refine qOr (fun a S => ?_); refine qMv (fun a S => ?_); refine qF (fun a S => ?_); refine qL kb (fun a S => ?_); refine qGeq (fun a S => ?_); refine qOr (fun a S => ?_); refine qMv (fun a S => ?_); refine qF (fun a S => ?_); refine qL kb (fun a S => ?_); refine qLss (fun a S => ?_); refine qOr (fun a S => ?_); refine qMv (fun a S => ?_); refine qF (fun a S => ?_); refine qL kb (fun a S => ?_); refine qGeq (fun a S => ?_); refine qOr (fun a S => ?_); refine qMv (fun a S => ?_); refine qF (fun a S => ?_); refine qL kb (fun a S => ?_); refine qLss (fun a S => ?_); refine qOr (fun a S => ?_); refine qMv (fun a S => ?_); refine qF (fun a S => ?_); refine qL kb (fun a S => ?_); refine qGtr (fun a S => ?_); refine qOr (fun a S => ?_); refine qMv (fun a S => ?_); refine qF (fun a S => ?_); refine qL kb (fun a S => ?_); refine qLss (fun a S => ?_); refine qOr (fun a S => ?_); refine qMv (fun a S => ?_); refine qF (fun a S => ?_); refine qL kb (fun a S => ?_); refine qGtr (fun a S => ?_); refine qOr (fun a S => ?_); refine qMv (fun a S => ?_); refine qF (fun a S => ?_); refine qL kb (fun a S => ?_); refine qLss (fun a S => ?_); refine qOr (fun a S => ?_); refine qMv (fun a S => ?_); refine qF (fun a S => ?_); refine qL kb (fun a S => ?_); refine qGtr (fun a S => ?_); refine qOr (fun a S => ?_); refine qMv (fun a S => ?_); refine qF (fun a S => ?_); refine qL kb (fun a S => ?_); refine qNeq (fun a S => ?_); refine qMv (fun a S => ?_); refine qF (fun a S => ?_); refine qL kb (fun a S => ?_); refine qNeq (fun a S => ?_); refine qAnd (fun a S => ?_); refine qMv (fun a S => ?_); refine qF (fun a S => ?_); refine qL kb (fun a S => ?_); refine qNeq (fun a S => ?_); refine qAnd (fun a S => ?_); refine qOr (fun a S => ?_); refine qMv (fun a S => ?_); refine qF (fun a S => ?_)
  refine qR kb [.bool o.x.give.s.neg, .slice o.X0 o.x.give.s.ls.length o.c0, .int .i64 o.x.give.s.ex, .bool o.x.give.w.neg, .slice o.X1 o.x.give.w.ls.length o.c1, .int .i64 o.x.give.w.ex, .bool o.x.give.c.neg, .slice o.X2 o.x.give.c.ls.length o.c2, .int .i64 o.x.give.c.ex, .bool o.x.give.a.neg, .slice o.X3 o.x.give.a.ls.length o.c3, .int .i64 o.x.give.a.ex] (fun a S => ?_)
  refine qC (hm _ hB) (fun a w1 hb S => ?_); replace kb := kb.below hb kb.lt; replace hB := hB.trans (hb.mono hB.size); clear hb
  refine qNot (fun a S => ?_); refine qOr (fun a S => ?_); refine qMv (fun a S => ?_); refine qF (fun a S => ?_); refine qL kb (fun a S => ?_)
  refine qC (hdc _ hB) (fun a w1 hb S => ?_); replace kb := kb.below hb kb.lt; replace hB := hB.trans (hb.mono hB.size); clear hb
  refine qNeq (fun a S => ?_); refine qOr (fun a S => ?_); refine qMv (fun a S => ?_); refine qF (fun a S => ?_)
  refine qR kb [.bool o.x.eh, .int .i64 o.x.e1, .int .i64 o.x.e2] (fun a S => ?_)
  refine qC (hee _ hB) (fun a w1 hb S => ?_); replace kb := kb.below hb kb.lt; replace hB := hB.trans (hb.mono hB.size); clear hb
  refine qNot (fun a S => ?_); refine qOr (fun a S => ?_); refine qMv (fun a S => ?_); refine qF (fun a S => ?_); refine qL kb (fun a S => ?_)
  refine qC (hl _ hB) (fun a w1 hb S => ?_); replace kb := kb.below hb kb.lt; replace hB := hB.trans (hb.mono hB.size); clear hb
  refine qNot (fun a S => ?_); refine qOr (fun a S => ?_)
  obtain ⟨X5, hX5⟩ : ∃ X5 : Bool, (((((((((((((((((decide (o.x.kd < 1)) || (decide (6 < o.x.kd))) || (decide (o.x.fr < 0))) || (decide (8 ≤ o.x.fr))) || (decide (o.x.tt < 0))) || (decide (8 ≤ o.x.tt))) || (decide (o.x.ep < 0))) || (decide (65535 < o.x.ep))) || (decide (o.x.nu < 0))) || (decide (1048575 < o.x.nu))) || (decide (o.x.ab < 0))) || (decide (1048575 < o.x.ab))) || (((o.x.kd != 3) && (o.x.kd != 4)) && (o.x.ab != 0))) || (!Qm)) || (Ed != 0)) || (!Qe)) || (!Ql)) = X5 := ⟨_, rfl⟩
  rw [hX5] at hR S
  clear hX5
  refine wpList_nil ?_
  refine k2 _ _ ?_
  refine wp_cond_split (S.fx _ _ rfl) (fun ht => ?_) (fun hf => ?_)
  · refine wp_seq (wp_region_list ?_)
    refine sx0 S (.bool false) (wantN rfl _) rfl (by decide) (fun _ => by go_simp; try rfl) ?_
    intro a S
    refine wpList_nil ?_
    show Code.wp _ _ _ _ _
    refine wp_ret ?_
    show Q0 .ret a _
    refine bodyPost_ret (v := .bool R) ?_ S.df ⟨rfl, hB⟩
    exact (results_tmp rfl _ _ _).trans (by rw [show a.tmps.getD 2 undef = _ from S.fx 2 _ rfl]; exact congrArg (fun x => Result.ok (Value.bool x) _) (by rw [← hR, ht]; rfl))
  rw [hf] at hR
  replace S : Sx a 172 [(1, gv true (.pointer (some ⟨w.heap.size, 0, none⟩)))] := S.sub (allC rfl allN)
  clear hf
  refine wp_skip ?_
  refine k1 _ _ ?_
  refine wp_seq (wp_seq (wp_region_lit ?_))
  refine qF (fun a S => ?_); refine qL kb (fun a S => ?_); refine qNeq (fun a S => ?_); refine qMv (fun a S => ?_); refine qF (fun a S => ?_); refine qF (fun a S => ?_)
  refine qR kb [.bool o.x.give.s.neg, .slice o.X0 o.x.give.s.ls.length o.c0, .int .i64 o.x.give.s.ex] (fun a S => ?_)
  refine qC (hz0 _ hB) (fun a w1 hb S => ?_); replace kb := kb.below hb kb.lt; replace hB := hB.trans (hb.mono hB.size); clear hb
  refine qNot (fun a S => ?_); refine qMv (fun a S => ?_); refine qF (fun a S => ?_); refine qF (fun a S => ?_)
  refine qR kb [.bool o.x.give.w.neg, .slice o.X1 o.x.give.w.ls.length o.c1, .int .i64 o.x.give.w.ex] (fun a S => ?_)
  refine qC (hz1 _ hB) (fun a w1 hb S => ?_); replace kb := kb.below hb kb.lt; replace hB := hB.trans (hb.mono hB.size); clear hb
  refine qNot (fun a S => ?_); refine qOr (fun a S => ?_); refine qAnd (fun a S => ?_); refine qMv (fun a S => ?_); refine qF (fun a S => ?_); refine qL kb (fun a S => ?_); refine qNeq (fun a S => ?_); refine qMv (fun a S => ?_); refine qF (fun a S => ?_); refine qL kb (fun a S => ?_); refine qNeq (fun a S => ?_); refine qAnd (fun a S => ?_); refine qMv (fun a S => ?_); refine qF (fun a S => ?_); refine qF (fun a S => ?_)
  refine qR kb [.bool o.x.give.c.neg, .slice o.X2 o.x.give.c.ls.length o.c2, .int .i64 o.x.give.c.ex] (fun a S => ?_)
  refine qC (hz2 _ hB) (fun a w1 hb S => ?_); replace kb := kb.below hb kb.lt; replace hB := hB.trans (hb.mono hB.size); clear hb
  refine qNot (fun a S => ?_); refine qMv (fun a S => ?_); refine qF (fun a S => ?_); refine qF (fun a S => ?_)
  refine qR kb [.bool o.x.give.a.neg, .slice o.X3 o.x.give.a.ls.length o.c3, .int .i64 o.x.give.a.ex] (fun a S => ?_)
  refine qC (hz3 _ hB) (fun a w1 hb S => ?_); replace kb := kb.below hb kb.lt; replace hB := hB.trans (hb.mono hB.size); clear hb
  refine qNot (fun a S => ?_); refine qOr (fun a S => ?_); refine qAnd (fun a S => ?_); refine qOr (fun a S => ?_)
  obtain ⟨X6, hX6⟩ : ∃ X6 : Bool, (((o.x.kd != 1) && ((!Z0) || (!Z1))) || (((o.x.kd != 2) && (o.x.kd != 3)) && ((!Z2) || (!Z3)))) = X6 := ⟨_, rfl⟩
  rw [hX6] at hR S
  clear hX6
  refine wpList_nil ?_
  show Code.wp _ _ _ _ _
  refine wp_cond_split (S.fx _ _ rfl) (fun ht => ?_) (fun hf2 => ?_)
  · refine wp_seq (wp_region_list ?_)
    refine sx0 S (.bool false) (wantN rfl _) rfl (by decide) (fun _ => by go_simp; try rfl) ?_
    intro a S
    refine wpList_nil ?_
    show Code.wp _ _ _ _ _
    refine wp_ret ?_
    show Q0 .ret a _
    refine bodyPost_ret (v := .bool R) ?_ S.df ⟨rfl, hB⟩
    exact (results_tmp rfl _ _ _).trans (by rw [show a.tmps.getD 2 undef = _ from S.fx 2 _ rfl]; exact congrArg (fun x => Result.ok (Value.bool x) _) (by rw [← hR, ht]; rfl))
  rw [hf2] at hR
  replace S : Sx a 172 [(1, gv true (.pointer (some ⟨w.heap.size, 0, none⟩)))] := S.sub (allC rfl allN)
  clear hf2
  refine wp_skip ?_
  show Code.wp _ _ _ _ _
  refine wp_seq (wp_region_lit ?_)
  refine qF (fun a S => ?_); refine qL kb (fun a S => ?_); refine qEql (fun a S => ?_); refine qMv (fun a S => ?_); refine qF (fun a S => ?_); refine qL kb (fun a S => ?_); refine qNot (fun a S => ?_); refine qMv (fun a S => ?_); refine qF (fun a S => ?_); refine qL kb (fun a S => ?_); refine qLen (fun a S => ?_); refine qEql (fun a S => ?_); refine qAnd (fun a S => ?_); refine qOr (fun a S => ?_); refine qMv (fun a S => ?_); refine qF (fun a S => ?_); refine qL kb (fun a S => ?_); refine qEql (fun a S => ?_); refine qMv (fun a S => ?_); refine qF (fun a S => ?_); refine qF (fun a S => ?_); refine qL kb (fun a S => ?_); refine qNot (fun a S => ?_); refine qMv (fun a S => ?_); refine qF (fun a S => ?_); refine qL kb (fun a S => ?_); refine qLen (fun a S => ?_); refine qEql (fun a S => ?_); refine qAnd (fun a S => ?_); refine qOr (fun a S => ?_); refine qAnd (fun a S => ?_); refine qAs (fun a S => ?_)
  refine wpList_nil ?_
  show Code.wp _ _ _ _ _
  refine wp_ret ?_
  show Q0 .ret a _
  refine bodyPost_ret (v := .bool R) ?_ S.df ⟨rfl, hB⟩
  exact (results_tmp rfl _ _ _).trans (by rw [show a.tmps.getD 2 undef = _ from S.fx 2 _ rfl]; exact congrArg (fun x => Result.ok (Value.bool x) _) (hR))
end Go.Proofs.Ytjmhefkmpfkpbaa

namespace Go.Proofs.Ytjmhefkmpfkpbaa
open Go.ChangeShapes Go.WideShapes Go.ChangeAt Go.RowKit
set_option linter.unusedSimpArgs false
set_option linter.unusedVariables false
set_option maxRecDepth 100000
set_option maxHeartbeats 4000000 in
theorem rzero_any (g : Bool) (X : Option Addr) (n c : Nat) (ze : Int) (d : Dy) (hd : d.ls.length ≤ 100000) (w : World) (B : Nat) (hr : RdD w B g X n c ze d) (hBw : B = w.heap.size) (R : Bool) (hR : decide (d = zd) = R) : Calls Try.prog 64 #[.agg #[.bool g, .slice X n c, .int .i64 ze]] w fun en w' => en = .returned (.bool R) ∧ Below w.heap.size w w' := by
  subst hBw
  have hs : ∀ w', Below w.heap.size w w' → Calls Try.prog 79 #[.agg #[.bool g, .slice X n c, .int .i64 ze], .agg #[.bool false, .slice none 0 0, .int .i64 0]] w' fun en w'' => en = .returned (.bool R) ∧ Below w'.heap.size w' w'' := fun w' hb => by
    obtain ⟨h1, h2, h3, h4, h5⟩ := hr
    exact rdsame_anyT g false X none n 0 c 0 ze 0 d.ls [] h3 rfl (by omega) (by decide) R (by rw [← hR]; obtain ⟨dn, dl, de⟩ := d; simp only at h1 h2; subst h1 h2; rfl) w' ((h5.below hb).more hb.size) Reads.none_
  obtain ⟨V, hV⟩ : ∃ V, V = (w.alloc (.cells #[.bool g, .slice X n c, .int .i64 ze] 24)) := ⟨_, rfl⟩
  have hB : Below w.heap.size w V := by rw [hV]; exact (Below.refl _ _).alloc (Nat.le_refl _) _
  have kb : Blk V w.heap.size 24 #[.bool g, .slice X n c, .int .i64 ze] := by rw [hV]; exact Blk.new w _ _
  go_enter Try.func64, Try.ntmps64
  go_upto_region 1 with (fail)
  rename_i Q0 K1 k1
  rw [← hV]
  clear hV
  refine wp_region_lit ?_
  refine wpList_abs2 6 1 2 (.pointer (some ⟨w.heap.size, 0, none⟩)) (.bool false) rfl rfl rfl rfl ?_
  intro a S
  refine qR kb [.bool g, .slice X n c, .int .i64 ze] (fun a S => ?_)
  refine sx0 S (.agg #[.bool false, .slice none 0 0, .int .i64 0]) (wantN rfl _) rfl (by decide) (fun _ => by go_simp; try rfl) ?_; intro a S
  refine qC2 (hs _ hB) (fun a w1 hb S => ?_); replace kb := kb.below hb kb.lt; replace hB := hB.trans (hb.mono hB.size); clear hb
  refine qAs (fun a S => ?_)
  refine wpList_nil ?_
  refine k1 _ _ ?_
  refine wp_ret ?_
  show Q0 .ret a _
  refine bodyPost_ret (v := .bool R) ?_ S.df ⟨rfl, hB⟩
  exact (results_tmp rfl _ _ _).trans (by rw [show a.tmps.getD 2 undef = _ from S.fx 2 _ rfl]; exact congrArg (fun x => Result.ok (Value.bool x) _) (rfl))
set_option maxHeartbeats 32000000 in
theorem rlsameA (a0 b0 : MO) (w : World) (qm qd ql R : Bool) (hR : (((((((((((a0.x.kd == b0.x.kd) && (a0.x.fr == b0.x.fr)) && (a0.x.tt == b0.x.tt)) && (a0.x.ep == b0.x.ep)) && (a0.x.nu == b0.x.nu)) && (a0.x.ab == b0.x.ab)) && qm) && (a0.x.wa == b0.x.wa)) && qd) && ((a0.x.eh == b0.x.eh) && ((a0.x.e1 == b0.x.e1) && (a0.x.e2 == b0.x.e2)))) && ql) = R) (hm : ∀ w', Below w.heap.size w w' → Calls Try.prog 46 #[.agg #[.bool a0.x.give.s.neg, .slice a0.X0 a0.x.give.s.ls.length a0.c0, .int .i64 a0.x.give.s.ex, .bool a0.x.give.w.neg, .slice a0.X1 a0.x.give.w.ls.length a0.c1, .int .i64 a0.x.give.w.ex, .bool a0.x.give.c.neg, .slice a0.X2 a0.x.give.c.ls.length a0.c2, .int .i64 a0.x.give.c.ex, .bool a0.x.give.a.neg, .slice a0.X3 a0.x.give.a.ls.length a0.c3, .int .i64 a0.x.give.a.ex], .agg #[.bool b0.x.give.s.neg, .slice b0.X0 b0.x.give.s.ls.length b0.c0, .int .i64 b0.x.give.s.ex, .bool b0.x.give.w.neg, .slice b0.X1 b0.x.give.w.ls.length b0.c1, .int .i64 b0.x.give.w.ex, .bool b0.x.give.c.neg, .slice b0.X2 b0.x.give.c.ls.length b0.c2, .int .i64 b0.x.give.c.ex, .bool b0.x.give.a.neg, .slice b0.X3 b0.x.give.a.ls.length b0.c3, .int .i64 b0.x.give.a.ex]] w' fun en w'' => en = .returned (.bool qm) ∧ Below w'.heap.size w' w'') (hd : ∀ w', Below w.heap.size w w' → Calls Try.prog 47 #[.slice a0.D a0.x.ds.length a0.dc, .slice b0.D b0.x.ds.length b0.dc] w' fun en w'' => en = .returned (.bool qd) ∧ Below w'.heap.size w' w'') (hl : ∀ w', Below w.heap.size w w' → Calls Try.prog 48 #[.slice a0.L a0.x.ls.length a0.lc, .slice b0.L b0.x.ls.length b0.lc] w' fun en w'' => en = .returned (.bool ql) ∧ Below w'.heap.size w' w'') : Calls Try.prog 19 #[aggL a0, aggL b0] w fun en w' => en = .returned (.bool R) ∧ Below w.heap.size w w' := by
  unfold aggL
  obtain ⟨V, hV⟩ : ∃ V, V = ((w.alloc (.cells #[.int .u8 a0.x.kd, .int .i64 a0.x.fr, .int .i64 a0.x.tt, .int .i64 a0.x.ep, .int .i64 a0.x.nu, .int .i64 a0.x.ab, .bool a0.x.give.s.neg, .slice a0.X0 a0.x.give.s.ls.length a0.c0, .int .i64 a0.x.give.s.ex, .bool a0.x.give.w.neg, .slice a0.X1 a0.x.give.w.ls.length a0.c1, .int .i64 a0.x.give.w.ex, .bool a0.x.give.c.neg, .slice a0.X2 a0.x.give.c.ls.length a0.c2, .int .i64 a0.x.give.c.ex, .bool a0.x.give.a.neg, .slice a0.X3 a0.x.give.a.ls.length a0.c3, .int .i64 a0.x.give.a.ex, .bool a0.x.wa, .slice a0.D a0.x.ds.length a0.dc, .bool a0.x.eh, .int .i64 a0.x.e1, .int .i64 a0.x.e2, .slice a0.L a0.x.ls.length a0.lc] 31)).alloc (.cells #[.int .u8 b0.x.kd, .int .i64 b0.x.fr, .int .i64 b0.x.tt, .int .i64 b0.x.ep, .int .i64 b0.x.nu, .int .i64 b0.x.ab, .bool b0.x.give.s.neg, .slice b0.X0 b0.x.give.s.ls.length b0.c0, .int .i64 b0.x.give.s.ex, .bool b0.x.give.w.neg, .slice b0.X1 b0.x.give.w.ls.length b0.c1, .int .i64 b0.x.give.w.ex, .bool b0.x.give.c.neg, .slice b0.X2 b0.x.give.c.ls.length b0.c2, .int .i64 b0.x.give.c.ex, .bool b0.x.give.a.neg, .slice b0.X3 b0.x.give.a.ls.length b0.c3, .int .i64 b0.x.give.a.ex, .bool b0.x.wa, .slice b0.D b0.x.ds.length b0.dc, .bool b0.x.eh, .int .i64 b0.x.e1, .int .i64 b0.x.e2, .slice b0.L b0.x.ls.length b0.lc] 31)) := ⟨_, rfl⟩
  have hB : Below w.heap.size w V := by rw [hV]; exact ((Below.refl _ _).alloc (Nat.le_refl _) _).alloc (by simp) _
  have kb : Blk V w.heap.size 31 #[.int .u8 a0.x.kd, .int .i64 a0.x.fr, .int .i64 a0.x.tt, .int .i64 a0.x.ep, .int .i64 a0.x.nu, .int .i64 a0.x.ab, .bool a0.x.give.s.neg, .slice a0.X0 a0.x.give.s.ls.length a0.c0, .int .i64 a0.x.give.s.ex, .bool a0.x.give.w.neg, .slice a0.X1 a0.x.give.w.ls.length a0.c1, .int .i64 a0.x.give.w.ex, .bool a0.x.give.c.neg, .slice a0.X2 a0.x.give.c.ls.length a0.c2, .int .i64 a0.x.give.c.ex, .bool a0.x.give.a.neg, .slice a0.X3 a0.x.give.a.ls.length a0.c3, .int .i64 a0.x.give.a.ex, .bool a0.x.wa, .slice a0.D a0.x.ds.length a0.dc, .bool a0.x.eh, .int .i64 a0.x.e1, .int .i64 a0.x.e2, .slice a0.L a0.x.ls.length a0.lc] := by rw [hV]; exact (Blk.new w _ _).alloc _
  have kc : Blk V (w.heap.size + 1) 31 #[.int .u8 b0.x.kd, .int .i64 b0.x.fr, .int .i64 b0.x.tt, .int .i64 b0.x.ep, .int .i64 b0.x.nu, .int .i64 b0.x.ab, .bool b0.x.give.s.neg, .slice b0.X0 b0.x.give.s.ls.length b0.c0, .int .i64 b0.x.give.s.ex, .bool b0.x.give.w.neg, .slice b0.X1 b0.x.give.w.ls.length b0.c1, .int .i64 b0.x.give.w.ex, .bool b0.x.give.c.neg, .slice b0.X2 b0.x.give.c.ls.length b0.c2, .int .i64 b0.x.give.c.ex, .bool b0.x.give.a.neg, .slice b0.X3 b0.x.give.a.ls.length b0.c3, .int .i64 b0.x.give.a.ex, .bool b0.x.wa, .slice b0.D b0.x.ds.length b0.dc, .bool b0.x.eh, .int .i64 b0.x.e1, .int .i64 b0.x.e2, .slice b0.L b0.x.ls.length b0.lc] := by rw [hV]; simpa using Blk.new (w.alloc (.cells #[.int .u8 a0.x.kd, .int .i64 a0.x.fr, .int .i64 a0.x.tt, .int .i64 a0.x.ep, .int .i64 a0.x.nu, .int .i64 a0.x.ab, .bool a0.x.give.s.neg, .slice a0.X0 a0.x.give.s.ls.length a0.c0, .int .i64 a0.x.give.s.ex, .bool a0.x.give.w.neg, .slice a0.X1 a0.x.give.w.ls.length a0.c1, .int .i64 a0.x.give.w.ex, .bool a0.x.give.c.neg, .slice a0.X2 a0.x.give.c.ls.length a0.c2, .int .i64 a0.x.give.c.ex, .bool a0.x.give.a.neg, .slice a0.X3 a0.x.give.a.ls.length a0.c3, .int .i64 a0.x.give.a.ex, .bool a0.x.wa, .slice a0.D a0.x.ds.length a0.dc, .bool a0.x.eh, .int .i64 a0.x.e1, .int .i64 a0.x.e2, .slice a0.L a0.x.ls.length a0.lc] 31)) 31 #[.int .u8 b0.x.kd, .int .i64 b0.x.fr, .int .i64 b0.x.tt, .int .i64 b0.x.ep, .int .i64 b0.x.nu, .int .i64 b0.x.ab, .bool b0.x.give.s.neg, .slice b0.X0 b0.x.give.s.ls.length b0.c0, .int .i64 b0.x.give.s.ex, .bool b0.x.give.w.neg, .slice b0.X1 b0.x.give.w.ls.length b0.c1, .int .i64 b0.x.give.w.ex, .bool b0.x.give.c.neg, .slice b0.X2 b0.x.give.c.ls.length b0.c2, .int .i64 b0.x.give.c.ex, .bool b0.x.give.a.neg, .slice b0.X3 b0.x.give.a.ls.length b0.c3, .int .i64 b0.x.give.a.ex, .bool b0.x.wa, .slice b0.D b0.x.ds.length b0.dc, .bool b0.x.eh, .int .i64 b0.x.e1, .int .i64 b0.x.e2, .slice b0.L b0.x.ls.length b0.lc]
  go_enter Try.func19, Try.ntmps19
  go_upto_region 1 with (fail)
  rename_i Q0 K1 k1
  rw [← hV]
  clear hV
  refine wp_region_lit ?_
  refine wpList_abs2 80 2 3 (.pointer (some ⟨w.heap.size, 0, none⟩)) (.pointer (some ⟨w.heap.size + 1, 0, none⟩)) rfl rfl rfl rfl ?_
  intro a S
  refine qF (fun a S => ?_); refine qL kb (fun a S => ?_); refine qF (fun a S => ?_); refine qL kc (fun a S => ?_); refine qEqI (fun a S => ?_); refine qMv (fun a S => ?_); refine qF (fun a S => ?_); refine qL kb (fun a S => ?_); refine qF (fun a S => ?_); refine qL kc (fun a S => ?_); refine qEqI (fun a S => ?_); refine qAnd (fun a S => ?_); refine qMv (fun a S => ?_); refine qF (fun a S => ?_); refine qL kb (fun a S => ?_); refine qF (fun a S => ?_); refine qL kc (fun a S => ?_); refine qEqI (fun a S => ?_); refine qAnd (fun a S => ?_); refine qMv (fun a S => ?_); refine qF (fun a S => ?_); refine qL kb (fun a S => ?_); refine qF (fun a S => ?_); refine qL kc (fun a S => ?_); refine qEqI (fun a S => ?_); refine qAnd (fun a S => ?_); refine qMv (fun a S => ?_); refine qF (fun a S => ?_); refine qL kb (fun a S => ?_); refine qF (fun a S => ?_); refine qL kc (fun a S => ?_); refine qEqI (fun a S => ?_); refine qAnd (fun a S => ?_); refine qMv (fun a S => ?_); refine qF (fun a S => ?_); refine qL kb (fun a S => ?_); refine qF (fun a S => ?_); refine qL kc (fun a S => ?_); refine qEqI (fun a S => ?_); refine qAnd (fun a S => ?_); refine qMv (fun a S => ?_); refine qF (fun a S => ?_)
  refine qR kb [.bool a0.x.give.s.neg, .slice a0.X0 a0.x.give.s.ls.length a0.c0, .int .i64 a0.x.give.s.ex, .bool a0.x.give.w.neg, .slice a0.X1 a0.x.give.w.ls.length a0.c1, .int .i64 a0.x.give.w.ex, .bool a0.x.give.c.neg, .slice a0.X2 a0.x.give.c.ls.length a0.c2, .int .i64 a0.x.give.c.ex, .bool a0.x.give.a.neg, .slice a0.X3 a0.x.give.a.ls.length a0.c3, .int .i64 a0.x.give.a.ex] (fun a S => ?_)
  refine qF (fun a S => ?_)
  refine qR kc [.bool b0.x.give.s.neg, .slice b0.X0 b0.x.give.s.ls.length b0.c0, .int .i64 b0.x.give.s.ex, .bool b0.x.give.w.neg, .slice b0.X1 b0.x.give.w.ls.length b0.c1, .int .i64 b0.x.give.w.ex, .bool b0.x.give.c.neg, .slice b0.X2 b0.x.give.c.ls.length b0.c2, .int .i64 b0.x.give.c.ex, .bool b0.x.give.a.neg, .slice b0.X3 b0.x.give.a.ls.length b0.c3, .int .i64 b0.x.give.a.ex] (fun a S => ?_)
  refine qC2 (hm _ hB) (fun a w1 hb S => ?_); replace kb := kb.below hb kb.lt; replace kc := kc.below hb kc.lt; replace hB := hB.trans (hb.mono hB.size); clear hb
  refine qAnd (fun a S => ?_); refine qMv (fun a S => ?_); refine qF (fun a S => ?_); refine qL kb (fun a S => ?_); refine qF (fun a S => ?_); refine qL kc (fun a S => ?_); refine qEqB (fun a S => ?_); refine qAnd (fun a S => ?_); refine qMv (fun a S => ?_); refine qF (fun a S => ?_); refine qL kb (fun a S => ?_); refine qF (fun a S => ?_); refine qL kc (fun a S => ?_)
  refine qC2 (hd _ hB) (fun a w1 hb S => ?_); replace kb := kb.below hb kb.lt; replace kc := kc.below hb kc.lt; replace hB := hB.trans (hb.mono hB.size); clear hb
  refine qAnd (fun a S => ?_); refine qMv (fun a S => ?_); refine qF (fun a S => ?_)
  refine qR kb [.bool a0.x.eh, .int .i64 a0.x.e1, .int .i64 a0.x.e2] (fun a S => ?_)
  refine qF (fun a S => ?_)
  refine qR kc [.bool b0.x.eh, .int .i64 b0.x.e1, .int .i64 b0.x.e2] (fun a S => ?_)
  refine sx2 68 70 S (.bool ((a0.x.eh == b0.x.eh) && ((a0.x.e1 == b0.x.e1) && (a0.x.e2 == b0.x.e2)))) (wG S rfl rfl (by decide) rfl) rfl rfl id id (fun ev ec e e2 => by go_simp; by_cases x1 : a0.x.eh = b0.x.eh <;> by_cases x2 : a0.x.e1 = b0.x.e1 <;> by_cases x3 : a0.x.e2 = b0.x.e2 <;> simp [x1, x2, x3]) ?_; intro a S
  refine qAnd (fun a S => ?_); refine qMv (fun a S => ?_); refine qF (fun a S => ?_); refine qL kb (fun a S => ?_); refine qF (fun a S => ?_); refine qL kc (fun a S => ?_)
  refine qC2 (hl _ hB) (fun a w1 hb S => ?_); replace kb := kb.below hb kb.lt; replace kc := kc.below hb kc.lt; replace hB := hB.trans (hb.mono hB.size); clear hb
  refine qAnd (fun a S => ?_); refine qAs (fun a S => ?_)
  refine wpList_nil ?_
  refine k1 _ _ ?_
  refine wp_ret ?_
  show Q0 .ret a _
  refine bodyPost_ret (v := .bool R) ?_ S.df ⟨rfl, hB⟩
  exact (results_tmp rfl _ _ _).trans (by rw [show a.tmps.getD 4 undef = _ from S.fx 4 _ rfl]; exact congrArg (fun x => Result.ok (Value.bool x) _) (hR))
end Go.Proofs.Ytjmhefkmpfkpbaa
namespace Go.Proofs.Ytjmhefkmpfkpbaa
open Go.ChangeShapes Go.WideShapes Go.ChangeAt Go.RowKit
set_option linter.unusedSimpArgs false
set_option linter.unusedVariables false
theorem rlsame_any (a b : MO) (hsa : smL a.x) (hsb : smL b.x) (w : World) (ra : rdL w w.heap.size a) (rb : rdL w w.heap.size b) (R : Bool) (hR : decide (a.x = b.x) = R) : Calls Try.prog 19 #[aggL a, aggL b] w fun en w' => en = .returned (.bool R) ∧ Below w.heap.size w w' :=
  rlsameA a b w (decide (a.x.give = b.x.give)) (decide (a.x.ds = b.x.ds)) (decide (a.x.ls = b.x.ls)) R (by rw [← hR]; exact ml_dec a.x b.x)
    (fun w' h => rmsame_anyT _ _ _ _ _ _ _ _ _ _ _ _ _ _ _ _ _ _ _ _ _ _ _ _ _ _ _ _ _ _ _ _ _ _ _ _ _ _ _ _ a.x.give b.x.give hsa.1 hsb.1 w' (ra.below h h.size).1 (rb.below h h.size).1 _ rfl)
    (fun w' h => (rdssame_any a.D b.D a.x.ds.length b.x.ds.length a.dc b.dc _ _ a.x.ds b.x.ds (by have := hsa.2.1; omega) w' (ra.below h h.size).2.1 (rb.below h h.size).2.1).mono fun en w'' hh => ⟨hh.1, by obtain ⟨m, e⟩ := hh.2; rw [e]; exact below_drewN (Below.refl _ _) m⟩)
    (fun w' h => (rtags_any a.L b.L a.x.ls.length b.x.ls.length a.lc b.lc _ _ a.x.ls b.x.ls rfl rfl hsa.2.2 hsb.2.2 w' (ra.below h h.size).2.2 (rb.below h h.size).2.2).mono fun en w'' hh => ⟨hh.1, by obtain ⟨m, e⟩ := hh.2; rw [e]; exact below_drewN (Below.refl _ _) m⟩)
theorem used_iff (m : Ml) (h : 1 ≤ m.kd ∧ m.kd ≤ 6) : m = usedL m ↔ ((m.kd ≠ 3 → m.kd ≠ 4 → m.ab = 0) ∧ (m.kd ≠ 1 → m.give.s = zd ∧ m.give.w = zd) ∧ (m.kd ≠ 2 → m.kd ≠ 3 → m.give.c = zd ∧ m.give.a = zd) ∧ (m.kd ≠ 5 → m.wa = false ∧ m.ds = []) ∧ (m.kd ≠ 6 → m.eh = false ∧ m.e1 = 0 ∧ m.e2 = 0 ∧ m.ls = [])) := by
  obtain ⟨kd, fr, tt, ep, nu, ab, ⟨gs, gw, gc, ga⟩, wa, ds, eh, e1, e2, ls⟩ := m
  have hc : kd = 1 ∨ kd = 2 ∨ kd = 3 ∨ kd = 4 ∨ kd = 5 ∨ kd = 6 := by simp only at h; omega
  rcases hc with rfl | rfl | rfl | rfl | rfl | rfl <;> constructor <;> intro hh <;> simp [usedL, Ml.mk.injEq, Ms.mk.injEq] at hh ⊢ <;> simp_all
theorem badN_iff (x : Int) : badN x = false ↔ 0 ≤ x ∧ x < 8 := by
  unfold badN
  simp only [Bool.or_eq_false_iff, decide_eq_false_iff_not]
  omega
theorem may_plain (m : Ml) (Ql : Bool) (hl : Ql = true ↔ (rises m.ls ∧ m.ls.length ≤ 8)) :
    ((!((((((((((((((((decide (m.kd < 1) || decide ((6 : Int) < m.kd)) || decide (m.fr < 0)) || decide ((8 : Int) ≤ m.fr)) || decide (m.tt < 0)) || decide ((8 : Int) ≤ m.tt)) || decide (m.ep < 0)) || decide ((65535 : Int) < m.ep)) || decide (m.nu < 0)) || decide ((1048575 : Int) < m.nu)) || decide (m.ab < 0)) || decide ((1048575 : Int) < m.ab)) || ((m.kd != 3) && (m.kd != 4) && (m.ab != 0))) || !(mayM m.give)) || (chkD m.ds != 0)) || !(mayE m.eh m.e1 m.e2)) || !Ql) && (!(((m.kd != 1) && ((!decide (m.give.s = zd)) || (!decide (m.give.w = zd)))) || (((m.kd != 2) && (m.kd != 3)) && ((!decide (m.give.c = zd)) || (!decide (m.give.a = zd))))) && (((m.kd == 5) || ((!m.wa) && ((m.ds.length:Int) == 0))) && ((m.kd == 6) || ((!m.eh) && ((m.ls.length:Int) == 0)))))) = true) ↔ okL m := by
  have e0 : ∀ {α : Type} (l : List α), ((l.length : Int) = 0 ↔ l = []) := fun l => by
    cases l
    · simp
    · simp; omega
  simp only [Bool.and_eq_true, Bool.not_eq_true', Bool.or_eq_false_iff, decide_eq_false_iff_not, Bool.and_eq_false_iff, bne_eq_false_iff_eq, Bool.not_eq_false', Bool.or_eq_true, beq_iff_eq, decide_eq_true_eq, e0]
  constructor
  · rintro ⟨⟨⟨⟨⟨⟨⟨⟨⟨⟨⟨⟨⟨⟨⟨⟨⟨k0, k1⟩, f0⟩, f1⟩, t0⟩, t1⟩, p0⟩, p1⟩, n0⟩, n1⟩, b0⟩, b1⟩, u0⟩, hm⟩, hd⟩, he⟩, hq⟩, ⟨u1, u2⟩, u3, u4⟩
    refine ⟨⟨by omega, by omega, ⟨(badN_iff _).2 (by omega), (badN_iff _).2 (by omega)⟩, by omega, by omega, by omega, by omega, by omega, by omega⟩, hm, hd, he, hl.1 hq, (used_iff m (by omega)).2 ⟨by omega, ?_, ?_, ?_, ?_⟩⟩
    · intro h
      exact u1.resolve_left h
    · intro h h2
      rcases u2 with (h3 | h3) | h3
      · exact absurd h3 h
      · exact absurd h3 h2
      · exact h3
    · intro h
      exact u3.resolve_left h
    · intro h
      obtain ⟨h3, h4⟩ := u4.resolve_left h
      rw [h3] at he
      unfold mayE at he
      simp at he
      exact ⟨h3, he.1, he.2, h4⟩
  · rintro ⟨⟨k0, k1, ⟨f0, t0⟩, p0, p1, n0, n1, b0, b1⟩, hm, hd, he, hq, hu⟩
    obtain ⟨v0, v1, v2, v3, v4⟩ := (used_iff m ⟨k0, k1⟩).1 hu
    have f1 := (badN_iff _).1 f0
    have t1 := (badN_iff _).1 t0
    refine ⟨⟨⟨⟨⟨⟨⟨⟨⟨⟨⟨⟨⟨⟨⟨⟨⟨by omega, by omega⟩, by omega⟩, by omega⟩, by omega⟩, by omega⟩, by omega⟩, by omega⟩, by omega⟩, by omega⟩, by omega⟩, by omega⟩, by omega⟩, hm⟩, hd⟩, he⟩, hl.2 hq⟩, ⟨?_, ?_⟩, ?_, ?_⟩
    · exact (Decidable.em (m.kd = 1)).imp id v1
    · by_cases h : m.kd = 2
      · exact .inl (.inl h)
      · by_cases h2 : m.kd = 3
        · exact .inl (.inr h2)
        · exact .inr (v2 h h2)
    · exact (Decidable.em (m.kd = 5)).imp id v3
    · exact (Decidable.em (m.kd = 6)).imp id (fun h => ⟨(v4 h).1, (v4 h).2.2.2⟩)
theorem rlmay_any (o : MO) (h : smL o.x) (w : World) (hr : rdL w w.heap.size o) : Calls Try.prog 31 #[aggL o] w fun en w' => ∃ R : Bool, en = .returned (.bool R) ∧ (R = true ↔ okL o.x) ∧ Below w.heap.size w w' := by
  obtain ⟨hm, hd, hl⟩ := h
  obtain ⟨r1, r2, r3⟩ := hr
  obtain ⟨Ql, hQ⟩ : ∃ Ql : Bool, Ql = true ↔ (rises o.x.ls ∧ o.x.ls.length ≤ 8) := by
    by_cases hq : rises o.x.ls ∧ o.x.ls.length ≤ 8
    · exact ⟨true, by simp [hq]⟩
    · exact ⟨false, by simpa using hq⟩
  refine (rmayA o w (mayM o.x.give) (mayE o.x.eh o.x.e1 o.x.e2) Ql (decide (o.x.give.s = zd)) (decide (o.x.give.w = zd)) (decide (o.x.give.c = zd)) (decide (o.x.give.a = zd)) _ (chkD o.x.ds) rfl
    (fun w' h => rzero_any _ _ _ _ _ o.x.give.s hm.1 w' _ (r1.below h h.size).1 rfl _ rfl) (fun w' h => rzero_any _ _ _ _ _ o.x.give.w hm.2.1 w' _ (r1.below h h.size).2.1 rfl _ rfl) (fun w' h => rzero_any _ _ _ _ _ o.x.give.c hm.2.2.1 w' _ (r1.below h h.size).2.2.1 rfl _ rfl) (fun w' h => rzero_any _ _ _ _ _ o.x.give.a hm.2.2.2 w' _ (r1.below h h.size).2.2.2 rfl _ rfl)
    (fun w' h => rmmay_anyT _ _ _ _ _ _ _ _ _ _ _ _ _ _ _ _ _ _ _ _ o.x.give _ rfl w' (r1.below h h.size))
    (fun w' _ => redge_any _ _ _ w' _ rfl)
    (fun w' h => (rleast_any o.L o.x.ls.length o.lc _ o.x.ls rfl hl w' ((r3.below h).more h.size)).mono fun en w'' hh => by
      obtain ⟨q, rfl, hq, m, rfl⟩ := hh
      obtain rfl : q = Ql := by rw [Bool.eq_iff_iff, hq, hQ]
      exact ⟨rfl, below_drewN (Below.refl _ _) m⟩)
    (fun w' h => rdcheck_any o.D o.x.ds.length o.dc o.x.ds hd w' ((r2.below h).more h.size) _ rfl)).mono ?_
  rintro en w' ⟨rfl, hb⟩
  exact ⟨_, rfl, may_plain o.x Ql hQ, hb⟩
end Go.Proofs.Ytjmhefkmpfkpbaa
