/- Frame: the contract of the reference's Take. -/
import Derived.Test.YtceggbbichfjnaaRefPut
import Derived.Deep.RegionHeld3
import Derived.StillTailTactics
import Derived.Deep.QuietTactic
import Derived.BigQuiet
namespace Go.Proofs.Ytceggbbichfjnaa
open Go.ChangeShapes Go.WideShapes Go.ChangeAt Go.RowKit
set_option linter.unusedSimpArgs false
set_option linter.unusedVariables false
theorem drop_four {l : List Nat} {n : Nat} (hn : l.length = n) (h9 : 9 ≤ n) : l.drop (n - 4) = [l.getD (n - 4) 0, l.getD (n - 3) 0, l.getD (n - 2) 0, l.getD (n - 1) 0] := by
  have hlen : (l.drop (n - 4)).length = 4 := by simp; omega
  apply List.ext_getElem
  · simpa using hlen
  · intro i h1 h2
    have hi : i < 4 := by simpa using h2
    rw [List.getElem_drop]
    have e : ∀ k, k < n → ∀ h : k < l.length, l[k] = l.getD k 0 := fun k _ h => by simp [List.getD_eq_getElem?_getD, List.getElem?_eq_getElem h]
    match i, hi with
    | 0, _ => exact e _ (by omega) _
    | 1, _ => simp only [List.getElem_cons_succ, List.getElem_cons_zero]; rw [e _ (by omega) _, show n - 4 + 1 = n - 3 by omega]
    | 2, _ => simp only [List.getElem_cons_succ, List.getElem_cons_zero]; rw [e _ (by omega) _, show n - 4 + 2 = n - 2 by omega]
    | 3, _ => simp only [List.getElem_cons_succ, List.getElem_cons_zero]; rw [e _ (by omega) _, show n - 4 + 3 = n - 1 by omega]
theorem told_iff {l : List Nat} {n s : Nat} (hn : l.length = n) (h9 : 9 ≤ n) : l.drop (n - 4) = told s ↔ l.getD (n - 4) 0 = s % 256 ∧ l.getD (n - 3) 0 = s / 256 % 256 ∧ l.getD (n - 2) 0 = s / 65536 % 256 ∧ l.getD (n - 1) 0 = s / 16777216 := by
  rw [drop_four hn h9]
  simp [told]
set_option maxHeartbeats 2000000 in
theorem rtake_short (A : Option Addr) (n c : Nat) (hn : n < 9) (w : World) :
    Calls Try.prog 13 #[.slice A n c] w fun en w' => en = .returned (.tuple #[.int .u8 0, .slice none 0 0, .int .i64 40]) ∧ w = w' := by
  have h1 : decide ((n : Int) < 9) = true := by simp; omega
  go_enter Try.func13, Try.ntmps13
  go_wp2
  go_ret3
  exact ⟨rfl, rfl⟩
set_option maxHeartbeats 4000000 in
theorem rtake_sum (ad : Addr) (n c : Nat) (l : List Nat) (hnl : l.length = n) (hn : 9 ≤ n) (hm : n ≤ 10000) (hc : n ≤ c) (hl : ∀ b ∈ l, b < 256) (w : World) (hR : Reads w w.heap.size 1 (some ad) n (bytes l)) (hsu : l.drop (n - 4) ≠ told (crc (l.take (n - 4)))) :
    Calls Try.prog 13 #[.slice (some ad) n c] w fun en w' => en = .returned (.tuple #[.int .u8 0, .slice none 0 0, .int .i64 42]) ∧ Below w.heap.size w w' := by
  have h1 : decide ((n : Int) < 9) = false := by simp; omega
  have e3 : IntKind.i64.wrap ((n : Int) - 4) = (n : Int) - 4 := IntWalk.i64_in _ (by omega)
  have e5 : IntKind.i64.wrap ((n : Int) - 3) = (n : Int) - 3 := IntWalk.i64_in _ (by omega)
  have e7 : IntKind.i64.wrap ((n : Int) - 2) = (n : Int) - 2 := IntWalk.i64_in _ (by omega)
  have e8 : IntKind.i64.wrap ((n : Int) - 1) = (n : Int) - 1 := IntWalk.i64_in _ (by omega)
  have e9 : IntKind.i64.wrap ((n : Int) - 9) = (n : Int) - 9 := IntWalk.i64_in _ (by omega)
  have p4 : ((n : Int) - 4).toNat = n - 4 := by omega
  have p3 : ((n : Int) - 3).toNat = n - 3 := by omega
  have p2 : ((n : Int) - 2).toNat = n - 2 := by omega
  have p1 : ((n : Int) - 1).toNat = n - 1 := by omega
  have q4 : (4 : Int) ≤ n := by omega
  have q3 : (3 : Int) ≤ n := by omega
  have q2 : (2 : Int) ≤ n := by omega
  have q1 : (1 : Int) ≤ n := by omega
  have r4 : ((n : Int) - 4) ≤ c := by omega
  have hl2 : ∀ b ∈ l.take (n - 4), b < 256 := fun b hb => hl b (List.mem_of_mem_take hb)
  have hcr := crc_lt (l.take (n - 4))
  have hti := told_iff (s := crc (l.take (n - 4))) hnl hn
  have hRt := hR.take_ (k := n - 4) (by omega)
  rw [show (bytes l).take (n - 4) = bytes (l.take (n - 4)) from (List.map_take ..).symm] at hRt
  have hlt : (l.take (n - 4)).length = n - 4 := by simp; omega
  have hcell : ∀ i, i < n → w.cell? (ad.add i) = some (.int .u8 ((l.getD i 0 : Nat) : Int)) := fun i hi => by
    obtain ⟨ad', e, hb, hx⟩ := hR.2 (by omega)
    injection e with e
    subst e
    exact hx i _ (by rw [List.getElem?_map, List.getElem?_eq_getElem (by omega)]; simp [List.getD_eq_getElem?_getD, List.getElem?_eq_getElem (show i < l.length by omega)])
  have hlt8 : ∀ i, i < n → l.getD i 0 < 256 := fun i hi => by rw [List.getD_eq_getElem?_getD, List.getElem?_eq_getElem (by omega)]; exact hl _ (List.getElem_mem _)
  have k4 := hcell (n - 4) (by omega)
  have k3 := hcell (n - 3) (by omega)
  have k2 := hcell (n - 2) (by omega)
  have k1 := hcell (n - 1) (by omega)
  obtain ⟨s, hs⟩ : ∃ s, crc (l.take (n - 4)) = s := ⟨_, rfl⟩
  rw [hs] at hti hcr
  have t4 : ((s : Int) / 16777216) % 256 = (s : Int) / 16777216 := by omega
  rw [hs] at hsu
  rw [Ne, hti] at hsu
  clear hcell hlt8 hti
  generalize l.getD (n - 4) 0 = t0 at *
  generalize l.getD (n - 3) 0 = t1 at *
  generalize l.getD (n - 2) 0 = t2 at *
  generalize l.getD (n - 1) 0 = t3 at *
  have hcase : (((t0 : Int) != (s : Int) % 256) = true) ∨ ((((t0 : Int) != (s : Int) % 256) = false) ∧ (((t1 : Int) != (s : Int) / 256 % 256) = true)) ∨ ((((t0 : Int) != (s : Int) % 256) = false) ∧ (((t1 : Int) != (s : Int) / 256 % 256) = false) ∧ (((t2 : Int) != (s : Int) / 65536 % 256) = true)) ∨ ((((t0 : Int) != (s : Int) % 256) = false) ∧ (((t1 : Int) != (s : Int) / 256 % 256) = false) ∧ (((t2 : Int) != (s : Int) / 65536 % 256) = false) ∧ (((t3 : Int) != (s : Int) / 16777216) = true)) := by
    simp only [bne_iff_ne, bne_eq_false_iff_eq, ne_eq]
    omega
  clear hsu
  rcases hcase with z0 | ⟨z0, z1⟩ | ⟨z0, z1, z2⟩ | ⟨z0, z1, z2, z3⟩
  all_goals
    go_enter Try.func13, Try.ntmps13
    go_wp2_with fail
    refine (rsum_n (some ad) (n - 4) c w.heap.size (l.take (n - 4)) hlt hl2 (by omega) _ hRt).mono ?_
    rintro en w2 ⟨rfl, rfl⟩
    rw [hs]
    clear hRt hR hs hlt hl2
    go_wp2
    go_ret3
    exact ⟨rfl, Below.refl _ _⟩
set_option maxHeartbeats 4000000 in
theorem rtake_form (ad : Addr) (n c : Nat) (l : List Nat) (hnl : l.length = n) (hn : 9 ≤ n) (hm : n ≤ 10000) (hc : n ≤ c) (hl : ∀ b ∈ l, b < 256) (w : World) (hR : Reads w w.heap.size 1 (some ad) n (bytes l)) (hsu : l.drop (n - 4) = told (crc (l.take (n - 4)))) (hf : ¬ (l.getD 0 0 = 72 ∧ l.getD 1 0 = 1 ∧ l.getD 3 0 * 256 + l.getD 4 0 = n - 9 ∧ n - 9 ≤ 4096)) :
    Calls Try.prog 13 #[.slice (some ad) n c] w fun en w' => en = .returned (.tuple #[.int .u8 0, .slice none 0 0, .int .i64 41]) ∧ Below w.heap.size w w' := by
  have h1 : decide ((n : Int) < 9) = false := by simp; omega
  have e3 : IntKind.i64.wrap ((n : Int) - 4) = (n : Int) - 4 := IntWalk.i64_in _ (by omega)
  have e5 : IntKind.i64.wrap ((n : Int) - 3) = (n : Int) - 3 := IntWalk.i64_in _ (by omega)
  have e7 : IntKind.i64.wrap ((n : Int) - 2) = (n : Int) - 2 := IntWalk.i64_in _ (by omega)
  have e8 : IntKind.i64.wrap ((n : Int) - 1) = (n : Int) - 1 := IntWalk.i64_in _ (by omega)
  have e9 : IntKind.i64.wrap ((n : Int) - 9) = (n : Int) - 9 := IntWalk.i64_in _ (by omega)
  have p4 : ((n : Int) - 4).toNat = n - 4 := by omega
  have p3 : ((n : Int) - 3).toNat = n - 3 := by omega
  have p2 : ((n : Int) - 2).toNat = n - 2 := by omega
  have p1 : ((n : Int) - 1).toNat = n - 1 := by omega
  have q4 : (4 : Int) ≤ n := by omega
  have q3 : (3 : Int) ≤ n := by omega
  have q2 : (2 : Int) ≤ n := by omega
  have q1 : (1 : Int) ≤ n := by omega
  have r4 : ((n : Int) - 4) ≤ c := by omega
  have hl2 : ∀ b ∈ l.take (n - 4), b < 256 := fun b hb => hl b (List.mem_of_mem_take hb)
  have hcr := crc_lt (l.take (n - 4))
  have hti := told_iff (s := crc (l.take (n - 4))) hnl hn
  have hRt := hR.take_ (k := n - 4) (by omega)
  rw [show (bytes l).take (n - 4) = bytes (l.take (n - 4)) from (List.map_take ..).symm] at hRt
  have hlt : (l.take (n - 4)).length = n - 4 := by simp; omega
  have hcell : ∀ i, i < n → w.cell? (ad.add i) = some (.int .u8 ((l.getD i 0 : Nat) : Int)) := fun i hi => by
    obtain ⟨ad', e, hb, hx⟩ := hR.2 (by omega)
    injection e with e
    subst e
    exact hx i _ (by rw [List.getElem?_map, List.getElem?_eq_getElem (by omega)]; simp [List.getD_eq_getElem?_getD, List.getElem?_eq_getElem (show i < l.length by omega)])
  have hlt8 : ∀ i, i < n → l.getD i 0 < 256 := fun i hi => by rw [List.getD_eq_getElem?_getD, List.getElem?_eq_getElem (by omega)]; exact hl _ (List.getElem_mem _)
  have k4 := hcell (n - 4) (by omega)
  have k3 := hcell (n - 3) (by omega)
  have k2 := hcell (n - 2) (by omega)
  have k1 := hcell (n - 1) (by omega)
  obtain ⟨s, hs⟩ : ∃ s, crc (l.take (n - 4)) = s := ⟨_, rfl⟩
  rw [hs] at hti hcr
  have t4 : ((s : Int) / 16777216) % 256 = (s : Int) / 16777216 := by omega
  rw [hs] at hsu
  rw [hti] at hsu
  obtain ⟨y0, y1, y2, y3⟩ := hsu
  have c0 := hcell 0 (by omega)
  rw [Addr.add_zero'] at c0
  have c1 := hcell 1 (by omega)
  rw [show ad.add 1 = ⟨ad.block, ad.off + 1, none⟩ from rfl] at c1
  have c2 := hcell 2 (by omega)
  rw [show ad.add 2 = ⟨ad.block, ad.off + 2, none⟩ from rfl] at c2
  have c3 := hcell 3 (by omega)
  rw [show ad.add 3 = ⟨ad.block, ad.off + 3, none⟩ from rfl] at c3
  have c4 := hcell 4 (by omega)
  rw [show ad.add 4 = ⟨ad.block, ad.off + 4, none⟩ from rfl] at c4
  have hb3 := hlt8 3 (by omega)
  have hb4 := hlt8 4 (by omega)
  have i0 : (0 : Int) < n := by omega
  have i1 : (1 : Int) < n := by omega
  have i2 : (2 : Int) < n := by omega
  have i3 : (3 : Int) < n := by omega
  have i4 : (4 : Int) < n := by omega
  clear hcell hlt8 hti
  generalize l.getD (n - 4) 0 = t0 at *
  generalize l.getD (n - 3) 0 = t1 at *
  generalize l.getD (n - 2) 0 = t2 at *
  generalize l.getD (n - 1) 0 = t3 at *
  have z0 : ((t0 : Int) != (s : Int) % 256) = false := by simp; omega
  have z1 : ((t1 : Int) != (s : Int) / 256 % 256) = false := by simp; omega
  have z2 : ((t2 : Int) != (s : Int) / 65536 % 256) = false := by simp; omega
  have z3 : ((t3 : Int) != (s : Int) / 16777216) = false := by simp; omega
  clear y0 y1 y2 y3
  generalize l.getD 0 0 = b0 at *
  generalize l.getD 1 0 = b1 at *
  generalize hg2 : l.getD 2 0 = b2 at *
  generalize l.getD 3 0 = b3 at *
  generalize l.getD 4 0 = b4 at *
  have m1 : IntKind.i64.wrap (256 * (b3 : Int)) = 256 * (b3 : Int) := IntWalk.i64_in _ (by omega)
  have m2 : IntKind.i64.wrap (256 * (b3 : Int) + (b4 : Int)) = 256 * (b3 : Int) + (b4 : Int) := IntWalk.i64_in _ (by omega)
  have hcase : (((b0 : Int) != 72) = true) ∨ ((((b0 : Int) != 72) = false) ∧ (((b1 : Int) != 1) = true)) ∨ ((((b0 : Int) != 72) = false) ∧ (((b1 : Int) != 1) = false) ∧ ((256 * (b3 : Int) + (b4 : Int) != (n : Int) - 9) = true)) ∨ ((((b0 : Int) != 72) = false) ∧ (((b1 : Int) != 1) = false) ∧ ((256 * (b3 : Int) + (b4 : Int) != (n : Int) - 9) = false) ∧ (decide ((4096 : Int) < (n : Int) - 9) = true)) := by
    simp only [bne_iff_ne, bne_eq_false_iff_eq, ne_eq, decide_eq_true_eq]
    omega
  clear hf
  rcases hcase with x0 | ⟨x0, x1⟩ | ⟨x0, x1, x2⟩ | ⟨x0, x1, x2, x3⟩
  all_goals
    go_enter Try.func13, Try.ntmps13
    go_wp2_with fail
    refine (rsum_n (some ad) (n - 4) c w.heap.size (l.take (n - 4)) hlt hl2 (by omega) _ hRt).mono ?_
    rintro en w2 ⟨rfl, rfl⟩
    rw [hs]
    clear hRt hR hs hlt hl2
    go_wp2_with fail
    go_quiet (fail)
    go_wp2
    go_ret3
    first | exact ⟨rfl, Below.drew (Below.refl _ _)⟩ | exact ⟨rfl, below_drewN (Below.refl _ _) _⟩
end Go.Proofs.Ytceggbbichfjnaa
