/- Frame: the contract of the reference's Take, where it takes. -/
import Derived.Test.YtceggbbichfjnaaRefTake
import Derived.Test.YtceggbbichfjnaaBackP
import Derived.Deep.RegionHeld3
import Derived.StillTailTactics
import Derived.Deep.QuietTactic
import Derived.BigQuiet
namespace Go.Proofs.Ytceggbbichfjnaa
open Go.ChangeShapes Go.WideShapes Go.ChangeAt Go.RowKit
set_option linter.unusedSimpArgs false
set_option linter.unusedVariables false
set_option maxHeartbeats 4000000 in
theorem rtake_ok (ad : Addr) (n c : Nat) (l : List Nat) (hnl : l.length = n) (hn : 9 ≤ n) (hm : n ≤ 10000) (hc : n ≤ c) (hl : ∀ b ∈ l, b < 256) (w : World) (hR : Reads w w.heap.size 1 (some ad) n (bytes l)) (hsu : l.drop (n - 4) = told (crc (l.take (n - 4)))) (hf : l.getD 0 0 = 72 ∧ l.getD 1 0 = 1 ∧ l.getD 3 0 * 256 + l.getD 4 0 = n - 9 ∧ n - 9 ≤ 4096) :
    Calls Try.prog 13 #[.slice (some ad) n c] w (TakePost w l) := by
  have h1 : decide ((n : Int) < 9) = false := by simp; omega
  have e3 : IntKind.i64.wrap ((n : Int) - 4) = (n : Int) - 4 := IntWalk.i64_in _ (by omega)
  have e5 : IntKind.i64.wrap ((n : Int) - 3) = (n : Int) - 3 := IntWalk.i64_in _ (by omega)
  have e7 : IntKind.i64.wrap ((n : Int) - 2) = (n : Int) - 2 := IntWalk.i64_in _ (by omega)
  have e8 : IntKind.i64.wrap ((n : Int) - 1) = (n : Int) - 1 := IntWalk.i64_in _ (by omega)
  have e9 : IntKind.i64.wrap ((n : Int) - 9) = (n : Int) - 9 := IntWalk.i64_in _ (by omega)
  have p4 : ((n : Int) - 4).toNat = n - 4 := by omega
  have p3 : ((n : Int) - 3).toNat = n - 3 := by omega
  have p2 : ((n : Int) - 2).toNat = n - 2 := by omega
  have p1 : ((n : Int) - 1).toNat = n - 1 := by omega
  have q4 : (4 : Int) ≤ n := by omega
  have q3 : (3 : Int) ≤ n := by omega
  have q2 : (2 : Int) ≤ n := by omega
  have q1 : (1 : Int) ≤ n := by omega
  have r4 : ((n : Int) - 4) ≤ c := by omega
  have hl2 : ∀ b ∈ l.take (n - 4), b < 256 := fun b hb => hl b (List.mem_of_mem_take hb)
  have hcr := crc_lt (l.take (n - 4))
  have hti := told_iff (s := crc (l.take (n - 4))) hnl hn
  have hRt := hR.take_ (k := n - 4) (by omega)
  rw [show (bytes l).take (n - 4) = bytes (l.take (n - 4)) from (List.map_take ..).symm] at hRt
  have hlt : (l.take (n - 4)).length = n - 4 := by simp; omega
  have hcell : ∀ i, i < n → w.cell? (ad.add i) = some (.int .u8 ((l.getD i 0 : Nat) : Int)) := fun i hi => by
    obtain ⟨ad', e, hb, hx⟩ := hR.2 (by omega)
    injection e with e
    subst e
    exact hx i _ (by rw [List.getElem?_map, List.getElem?_eq_getElem (by omega)]; simp [List.getD_eq_getElem?_getD, List.getElem?_eq_getElem (show i < l.length by omega)])
  have hlt8 : ∀ i, i < n → l.getD i 0 < 256 := fun i hi => by rw [List.getD_eq_getElem?_getD, List.getElem?_eq_getElem (by omega)]; exact hl _ (List.getElem_mem _)
  have k4 := hcell (n - 4) (by omega)
  have k3 := hcell (n - 3) (by omega)
  have k2 := hcell (n - 2) (by omega)
  have k1 := hcell (n - 1) (by omega)
  obtain ⟨s, hs⟩ : ∃ s, crc (l.take (n - 4)) = s := ⟨_, rfl⟩
  rw [hs] at hti hcr
  have t4 : ((s : Int) / 16777216) % 256 = (s : Int) / 16777216 := by omega
  rw [hs] at hsu
  rw [hti] at hsu
  obtain ⟨y0, y1, y2, y3⟩ := hsu
  have c0 := hcell 0 (by omega)
  rw [Addr.add_zero'] at c0
  have c1 := hcell 1 (by omega)
  rw [show ad.add 1 = ⟨ad.block, ad.off + 1, none⟩ from rfl] at c1
  have c2 := hcell 2 (by omega)
  rw [show ad.add 2 = ⟨ad.block, ad.off + 2, none⟩ from rfl] at c2
  have c3 := hcell 3 (by omega)
  rw [show ad.add 3 = ⟨ad.block, ad.off + 3, none⟩ from rfl] at c3
  have c4 := hcell 4 (by omega)
  rw [show ad.add 4 = ⟨ad.block, ad.off + 4, none⟩ from rfl] at c4
  have hb3 := hlt8 3 (by omega)
  have hb4 := hlt8 4 (by omega)
  have i0 : (0 : Int) < n := by omega
  have i1 : (1 : Int) < n := by omega
  have i2 : (2 : Int) < n := by omega
  have i3 : (3 : Int) < n := by omega
  have i4 : (4 : Int) < n := by omega
  clear hcell hlt8 hti
  generalize l.getD (n - 4) 0 = t0 at *
  generalize l.getD (n - 3) 0 = t1 at *
  generalize l.getD (n - 2) 0 = t2 at *
  generalize l.getD (n - 1) 0 = t3 at *
  have z0 : ((t0 : Int) != (s : Int) % 256) = false := by simp; omega
  have z1 : ((t1 : Int) != (s : Int) / 256 % 256) = false := by simp; omega
  have z2 : ((t2 : Int) != (s : Int) / 65536 % 256) = false := by simp; omega
  have z3 : ((t3 : Int) != (s : Int) / 16777216) = false := by simp; omega
  clear y0 y1 y2 y3
  obtain ⟨i0v, hinf, hz0, hz1, hz2⟩ := info_parts info5
  have hct : (content l).length = n - 9 := by simp [content]; omega
  have hRc : Reads w w.heap.size 1 (some ⟨ad.block, ad.off + 5, none⟩) (n - 9) (bytes (content l)) := by
    have := (hR.drop_ (k := 5) (by omega)).take_ (k := n - 9) (by omega)
    rw [show (bytes l).drop 5 = bytes (l.drop 5) from (List.map_drop ..).symm, show (bytes (l.drop 5)).take (n - 9) = bytes ((l.drop 5).take (n - 9)) from (List.map_take ..).symm, ← hnl] at this
    rw [← hnl]
    exact this
  generalize hcon : content l = con at *
  generalize l.getD 0 0 = b0 at *
  generalize l.getD 1 0 = b1 at *
  generalize hg2 : l.getD 2 0 = b2 at *
  generalize l.getD 3 0 = b3 at *
  generalize l.getD 4 0 = b4 at *
  have m1 : IntKind.i64.wrap (256 * (b3 : Int)) = 256 * (b3 : Int) := IntWalk.i64_in _ (by omega)
  have m2 : IntKind.i64.wrap (256 * (b3 : Int) + (b4 : Int)) = 256 * (b3 : Int) + (b4 : Int) := IntWalk.i64_in _ (by omega)
  obtain ⟨f0, f1, f3, f4⟩ := hf
  have x0 : ((b0 : Int) != 72) = false := by simp; omega
  have x1 : ((b1 : Int) != 1) = false := by simp; omega
  have x2 : (256 * (b3 : Int) + (b4 : Int) != (n : Int) - 9) = false := by simp; omega
  have x3 : decide ((4096 : Int) < (n : Int) - 9) = false := by simp; omega
  have hadb : ad.block < w.heap.size := by
    obtain ⟨ad', e, hb, _⟩ := hR.2 (by omega)
    injection e with e
    subst e
    exact hb
  have TT : ∀ w', Below w.heap.size w w' → Below w.heap.size w w' ∧ w'.cell? ⟨ad.block, ad.off + 2, none⟩ = some (.int .u8 (b2 : Int)) ∧ Reads w' w.heap.size 1 (some ⟨ad.block, ad.off + 5, none⟩) (n - 9) (bytes con) := fun w' hb => ⟨hb, (hb.cell (p := ⟨ad.block, ad.off + 2, none⟩) hadb).trans c2, hRc.below hb⟩
  have g1 : n - 4 - 5 = n - 9 := by omega
  have g2 : (5 : Int) ≤ (n : Int) - 4 := by omega
  have g4 : (9 : Int) ≤ n := by omega
  clear f0 f1 f3 f4
  go_enter Try.func13, Try.ntmps13
  go_wp2_with fail
  refine (rsum_n (some ad) (n - 4) c w.heap.size (l.take (n - 4)) hlt hl2 (by omega) _ hRt).mono ?_
  rintro en w2 ⟨rfl, rfl⟩
  rw [hs]
  clear hRt hR hs hlt hl2
  go_wp2_with fail
  go_quiet (fail)
  go_wp2_with fail
  rename_i K0 hK0
  have hW : Below w.heap.size w (w.drewN nq) := below_drewN (Below.refl _ _) _
  generalize w.drewN nq = W at *
  refine wp_region_held_drew (S := (fun w' => Below w.heap.size w w' ∧ w'.cell? ⟨ad.block, ad.off + 2, none⟩ = some (.int .u8 (b2 : Int)) ∧ Reads w' w.heap.size 1 (some ⟨ad.block, ad.off + 5, none⟩) (n - 9) (bytes con))) (by kernel_rfl) (TT _ (Below.drew hW)) (fun hHeld => ?_)
  refine wpAnyH_take (i := 0) (v := ?_) rfl (by kernel_rfl) (by kernel_rfl) (by kernel_rfl) (fun _ _ _ h => h) (Or.inl ⟨by rfl, ?_⟩) (by assumption) ?_
  rotate_left
  · (intro w hSw; (try dsimp only at hSw); go_simp; (try with_reducible rfl))
  (try simp only [Act.put, List.setIfInBounds_toArray, List.set_cons_zero, List.set_cons_succ])
  refine wpAnyH_take (i := 1) (v := ?_) rfl (by kernel_rfl) (by kernel_rfl) (by kernel_rfl) (fun _ _ _ h => h) (Or.inl ⟨by rfl, ?_⟩) (by assumption) ?_
  rotate_left
  · (intro w hSw; (try dsimp only at hSw); go_simp; (try with_reducible rfl))
  (try simp only [Act.put, List.setIfInBounds_toArray, List.set_cons_zero, List.set_cons_succ])
  refine wpAnyH_take (i := 2) (v := ?_) rfl (by kernel_rfl) (by kernel_rfl) (by kernel_rfl) (fun _ _ _ h => h) (Or.inl ⟨by rfl, ?_⟩) (by assumption) ?_
  rotate_left
  · (intro w hSw; (try dsimp only at hSw); go_simp; (try with_reducible rfl))
  (try simp only [Act.put, List.setIfInBounds_toArray, List.set_cons_zero, List.set_cons_succ])
  refine wpAnyH_take (i := 4) (v := ?_) rfl (by kernel_rfl) (by kernel_rfl) (by kernel_rfl) (fun _ _ _ h => h) (Or.inl ⟨by rfl, ?_⟩) (by assumption) ?_
  rotate_left
  · (intro w hSw; (try dsimp only at hSw); go_simp; (try with_reducible rfl))
  (try simp only [Act.put, List.setIfInBounds_toArray, List.set_cons_zero, List.set_cons_succ])
  refine wpAnyH_take (i := 5) (v := ?_) rfl (by kernel_rfl) (by kernel_rfl) (by kernel_rfl) (fun _ _ _ h => h) (Or.inl ⟨by rfl, ?_⟩) (by assumption) ?_
  rotate_left
  · (intro w hSw; (try dsimp only at hSw); go_simp; (try with_reducible rfl))
  (try simp only [Act.put, List.setIfInBounds_toArray, List.set_cons_zero, List.set_cons_succ])
  refine wpAnyH_take (i := 6) (v := ?_) rfl (by kernel_rfl) (by kernel_rfl) (by kernel_rfl) (fun _ _ _ h => h) (Or.inl ⟨by rfl, ?_⟩) (by assumption) ?_
  rotate_left
  · (intro w hSw; (try dsimp only at hSw); go_simp; (try with_reducible rfl))
  (try simp only [Act.put, List.setIfInBounds_toArray, List.set_cons_zero, List.set_cons_succ])
  refine wpAnyH_take (i := 7) (v := ?_) rfl (by kernel_rfl) (by kernel_rfl) (by kernel_rfl) (fun _ _ _ h => h) (Or.inl ⟨by rfl, ?_⟩) (by assumption) ?_
  rotate_left
  · (intro w hSw; (try dsimp only at hSw); go_simp; (try with_reducible rfl))
  (try simp only [Act.put, List.setIfInBounds_toArray, List.set_cons_zero, List.set_cons_succ])
  refine wpAnyH_ready (rs := [3]) (by kernel_rfl) (by simp) ?_
  refine AllReadyH.cons rfl (fun K hK => ?_) AllReadyH.nil
  go_simp
  refine hK.out _ _ (TT _ (Below.alloc (Below.drew hW) hW.size _)) (fun hHeld => ?_)
  clear hK K
  (try simp only [Act.put, List.setIfInBounds_toArray, List.set_cons_zero, List.set_cons_succ])
  refine wpAnyH_ready (rs := [8]) (by kernel_rfl) (by simp) ?_
  refine AllReadyH.cons rfl (fun K hK => ?_) AllReadyH.nil
  refine step_append_any _ rfl (.tmp 90) (.tmp 94) _ rfl w.heap.size 5 i0v _ 1 1 Try.underlying22 hinf hz0 hz1 hz2 rfl (by omega) (.slice (some ⟨W.drew.heap.size, 0, none⟩) 0 0) 0 [] rfl (owns_new W.drew w.heap.size hW.size [] 5 0 rfl (by unfold maxLen; omega)) w.heap.size (some ⟨ad.block, ad.off + 5, none⟩) (n - 9) (c - 5) (bytes con) ?_ (TT _ (Below.alloc (Below.drew hW) hW.size _)).2.2 (bytes_one con) (by unfold maxLen; omega) (by omega) (by have := hW.size; simp; omega) ?_
  · (go_simp; (try (intro h5; omega)))
  intro v2 w2 hown2 hgw2 hat2
  simp only [Nat.zero_add, List.nil_append] at hown2
  have hBel2 : Below w.heap.size w w2 := (Below.alloc (Below.drew hW) hW.size _).grown hgw2 (by have := hW.size; simp; omega) (by intro q hq; simp [Value.ownBlock] at hq; have := hW.size; omega)
  refine hK.out _ _ (TT _ hBel2) (fun hHeld => ?_)
  clear hK K
  (try simp only [Act.put, List.setIfInBounds_toArray, List.set_cons_zero, List.set_cons_succ])
  refine wpAnyH_ready (rs := [9]) (by kernel_rfl) (by simp) ?_
  refine AllReadyH.cons rfl (fun K hK => ?_) AllReadyH.nil
  go_simp
  refine hK.out _ _ (TT _ hBel2) (fun hHeld => ?_)
  clear hK K
  (try simp only [Act.put, List.setIfInBounds_toArray, List.set_cons_zero, List.set_cons_succ])
  refine wpAnyH_ready (rs := [10]) (by kernel_rfl) (by simp) ?_
  refine AllReadyH.cons rfl (fun K hK => ?_) AllReadyH.nil
  go_simp
  refine hK.out _ _ (TT _ hBel2) (fun hHeld => ?_)
  clear hK K
  (try simp only [Act.put, List.setIfInBounds_toArray, List.set_cons_zero, List.set_cons_succ])
  refine wpAnyH_ready (rs := [11]) (by kernel_rfl) (by simp) ?_
  refine AllReadyH.cons rfl (fun K hK => ?_) AllReadyH.nil
  go_simp
  refine hK.out _ _ (TT _ hBel2) (fun hHeld => ?_)
  clear hK K
  (try simp only [Act.put, List.setIfInBounds_toArray, List.set_cons_zero, List.set_cons_succ])
  refine wpAnyH_done (by kernel_rfl) ?_ _
  first | apply hK0 | skip
  go_wp2
  go_ret3
  exact ⟨v2, by first | (rw [hg2]; done) | (rw [hg2]; rfl), by rw [hcon]; unfold Owns; rw [hct]; exact hown2, hBel2⟩
end Go.Proofs.Ytceggbbichfjnaa
