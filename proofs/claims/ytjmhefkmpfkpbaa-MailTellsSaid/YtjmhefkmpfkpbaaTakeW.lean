/- Frame: the contract of the program's Take. -/
import Derived.Test.YtjmhefkmpfkpbaaZPlain
import Derived.Deep.RegionHeld3
import Derived.IntWalk
import Derived.Laws.BitsAllLaws
import Derived.StillTailTactics
import Derived.Deep.QuietTactic
import Derived.BigQuiet
namespace Go.Proofs.Ytjmhefkmpfkpbaa
open Go.ChangeShapes Go.WideShapes Go.ChangeAt Go.RowKit
set_option linter.unusedSimpArgs false
theorem or_two (a b : Nat) (ha : a < 256) (hb : b < 256) : bits .or .i64 ((a : Int) * 256) (b : Int) = (a : Int) * 256 + b := by
  have e : a * 256 ||| b = a * 256 + b := by
    have := Nat.two_pow_add_eq_or_of_lt (i := 8) (b := b) (by omega) a
    rw [show (2 : Nat) ^ 8 * a = a * 256 by omega] at this
    exact this.symm
  have ea : (BitVec.ofInt 64 ((a : Int) * 256)).toNat = a * 256 := by
    rw [show ((a : Int) * 256) = ((a * 256 : Nat) : Int) by simp, BitVec.ofInt_natCast, BitVec.toNat_ofNat]; exact Nat.mod_eq_of_lt (by omega)
  have eb : (BitVec.ofInt 64 (b : Int)).toNat = b := by
    rw [BitVec.ofInt_natCast, BitVec.toNat_ofNat]; exact Nat.mod_eq_of_lt (by omega)
  show IntKind.i64.wrap ((BitVec.ofInt 64 ((a : Int) * 256) ||| BitVec.ofInt 64 (b : Int)).toNat : Int) = _
  rw [BitVec.toNat_or, ea, eb, e]
  rw [IntWalk.i64_in _ (by omega)]
  simp
theorem Reads.drop_ {w : World} {B n k : Nat} {ad : Addr} {xs : List Value} (h : Reads w B 1 (some ad) n xs) (hk : k ≤ n) : Reads w B 1 (some (ad.add k)) (n - k) (xs.drop k) := by
  refine ⟨by have := h.1; simp; omega, fun hp => ?_⟩
  obtain ⟨ad', e, hb, hc⟩ := h.2 (by omega)
  injection e with e
  subst e
  refine ⟨_, rfl, by show (ad.add k).block < B; unfold Addr.add; split <;> exact hb, fun j u hu => ?_⟩
  rw [List.getElem?_drop] at hu
  rw [Addr.add_add]
  exact hc (k + j) u hu
set_option maxRecDepth 100000 in
set_option maxHeartbeats 2000000 in
theorem take_short (A : Option Addr) (n c : Nat) (hn : n < 9) (w : World) :
    Calls Try.prog 23 #[.slice A n c] w fun en w' => en = .returned (.tuple #[.int .u8 0, .slice none 0 0, .int .i64 40]) ∧ w = w' := by
  have e1 : IntKind.i64.wrap ((n : Int) - 5) = (n : Int) - 5 := IntWalk.i64_in _ (by omega)
  have e2 : IntKind.i64.wrap ((n : Int) - 5 - 4) = (n : Int) - 5 - 4 := IntWalk.i64_in _ (by omega)
  have h1 : decide ((n : Int) - 5 - 4 < 0) = true := decide_eq_true (by omega)
  go_enter Try.func23, Try.ntmps23
  go_wp2
  go_ret3
  exact ⟨rfl, rfl⟩
set_option maxRecDepth 100000 in
set_option maxHeartbeats 4000000 in
theorem take_sum (ad : Addr) (n c : Nat) (l : List Nat) (hnl : l.length = n) (hn : 9 ≤ n) (hm : n ≤ 10000) (hc : n ≤ c) (hl : ∀ b ∈ l, b < 256) (w : World) (hR : Reads w w.heap.size 1 (some ad) n (bytes l)) (hs : l.drop (n - 4) ≠ told (crc (l.take (n - 4)))) :
    Calls Try.prog 23 #[.slice (some ad) n c] w fun en w' => en = .returned (.tuple #[.int .u8 0, .slice none 0 0, .int .i64 42]) ∧ Below w.heap.size w w' := by
  have e1 : IntKind.i64.wrap ((n : Int) - 5) = (n : Int) - 5 := IntWalk.i64_in _ (by omega)
  have e2 : IntKind.i64.wrap ((n : Int) - 5 - 4) = (n : Int) - 5 - 4 := IntWalk.i64_in _ (by omega)
  have h1 : decide ((n : Int) - 5 - 4 < 0) = false := decide_eq_false (by omega)
  have e3 : IntKind.i64.wrap ((n : Int) - 4) = (n : Int) - 4 := IntWalk.i64_in _ (by omega)
  have e4 : ((n : Int) - 4).toNat = n - 4 := by omega
  have e5 : n - (n - 4) = 4 := by omega
  have e6 : (0 : Int) ≤ n - 4 := by omega
  have e7 : ((n : Int) - 4) ≤ n := by omega
  have e8 : ((n : Int) - 4) ≤ c := by omega
  have e9 : n - 4 ≤ n := by omega
  have ea : (4 : Int) ≤ n := by omega
  have eb : ¬ c = n - 4 := by omega
  have ec : c ≠ n - 4 := by omega
  have ed : n - 4 ≤ c := by omega
  have ee : (n : Int) ≤ c := by omega
  have hl1 : ∀ b ∈ l.drop (n - 4), b < 256 := fun b hb => hl b (List.mem_of_mem_drop hb)
  have hl2 : ∀ b ∈ l.take (n - 4), b < 256 := fun b hb => hl b (List.mem_of_mem_take hb)
  have hcr := crc_lt (l.take (n - 4))
  have hd := strOf_inj hl1 (told_lt hcr)
  rw [decide_eq_false hs] at hd
  have hRd := hR.drop_ (k := n - 4) e9
  rw [e5, show (bytes l).drop (n - 4) = bytes (l.drop (n - 4)) from (List.map_drop ..).symm] at hRd
  have hRt := hR.take_ (k := n - 4) e9
  rw [show (bytes l).take (n - 4) = bytes (l.take (n - 4)) from (List.map_take ..).symm] at hRt
  have hlt : (l.take (n - 4)).length = n - 4 := by simp; omega
  have hld : (l.drop (n - 4)).length = 4 := by simp; omega
  have SS : ∀ w', Below w.heap.size w w' → Below w.heap.size w w' ∧ (convert 34 9 (.slice (some (ad.add (n - 4))) 4 (c - (n - 4)))).run Try.prog w' = .ok (.string (strOf (l.drop (n - 4)))) w' ∧ Reads w' w.heap.size 1 (some ad) (n - 4) (bytes (l.take (n - 4))) := fun w' hb => ⟨hb, conv_str hld hl1 (hRd.below hb), hRt.below hb⟩
  have kx : (convert 34 9 (.slice (some ⟨w.heap.size, 0, none⟩) 4 4)).run Try.prog (w.alloc (.cells (bytes (told (crc (l.take (n - 4))))).toArray 5)).drew = .ok (.string (strOf (told (crc (l.take (n - 4)))))) (w.alloc (.cells (bytes (told (crc (l.take (n - 4))))).toArray 5)).drew := conv_str (w := (w.alloc (.cells (bytes (told (crc (l.take (n - 4))))).toArray 5)).drew) (c := 4) (l := told (crc (l.take (n - 4)))) rfl (told_lt hcr) (Reads.below (reads_new w (bytes (told (crc (l.take (n - 4))))) 5 4 rfl) (Below.drew (Below.refl _ _)))
  clear hRd hRt hR
  go_enter Try.func23, Try.ntmps23
  go_wp2_with fail
  refine wp_region_held_drew (S := (fun w' => Below w.heap.size w w' ∧ (convert 34 9 (.slice (some (ad.add (n - 4))) 4 (c - (n - 4)))).run Try.prog w' = .ok (.string (strOf (l.drop (n - 4)))) w' ∧ Reads w' w.heap.size 1 (some ad) (n - 4) (bytes (l.take (n - 4))))) (by kernel_rfl) (SS _ (Below.drew (Below.refl _ _))) (fun hHeld => ?_)
  refine wpAnyH_take (i := 0) (v := ?_) rfl (by kernel_rfl) (by kernel_rfl) (by kernel_rfl) (fun _ _ _ h => h) (Or.inl ⟨by rfl, ?_⟩) (by assumption) ?_
  rotate_left
  · (intro w hSw; (try dsimp only at hSw); go_simp; (try with_reducible rfl))
  (try simp only [Act.put, lsA, lsZ, lsS])
  refine wpAnyH_take (i := 1) (v := ?_) rfl (by kernel_rfl) (by kernel_rfl) (by kernel_rfl) (fun _ _ _ h => h) (Or.inl ⟨by rfl, ?_⟩) (by assumption) ?_
  rotate_left
  · (intro w hSw; (try dsimp only at hSw); go_simp; (try with_reducible rfl))
  (try simp only [Act.put, lsA, lsZ, lsS])
  refine wpAnyH_take (i := 2) (v := ?_) rfl (by kernel_rfl) (by kernel_rfl) (by kernel_rfl) (fun _ _ _ h => h) (Or.inl ⟨by rfl, ?_⟩) (by assumption) ?_
  rotate_left
  · (intro w hSw; (try dsimp only at hSw); go_simp; (try with_reducible rfl))
  (try simp only [Act.put, lsA, lsZ, lsS])
  refine wpAnyH_take (i := 3) (v := ?_) rfl (by kernel_rfl) (by kernel_rfl) (by kernel_rfl) (fun _ _ _ h => h) (Or.inl ⟨by rfl, ?_⟩) (by assumption) ?_
  rotate_left
  · (intro w hSw; (try dsimp only at hSw); go_simp; (try with_reducible rfl))
  (try simp only [Act.put, lsA, lsZ, lsS])
  refine wpAnyH_take (i := 4) (v := ?_) rfl (by kernel_rfl) (by kernel_rfl) (by kernel_rfl) (fun _ _ _ h => h) (Or.inl ⟨by rfl, ?_⟩) (by assumption) ?_
  rotate_left
  · (intro w hSw; (try dsimp only at hSw); go_simp; (try with_reducible rfl))
  (try simp only [Act.put, lsA, lsZ, lsS])
  refine wpAnyH_take (i := 5) (v := ?_) rfl (by kernel_rfl) (by kernel_rfl) (by kernel_rfl) (fun _ _ _ h => h) (Or.inl ⟨by rfl, ?_⟩) (by assumption) ?_
  rotate_left
  · (intro w hSw; (try dsimp only at hSw); go_simp; (try with_reducible rfl))
  (try simp only [Act.put, lsA, lsZ, lsS])
  refine wpAnyH_take (i := 6) (v := ?_) rfl (by kernel_rfl) (by kernel_rfl) (by kernel_rfl) (fun _ _ _ h => h) (Or.inl ⟨by rfl, ?_⟩) (by assumption) ?_
  rotate_left
  · (intro w hSw; (try dsimp only at hSw); go_simp; (try with_reducible rfl))
  (try simp only [Act.put, lsA, lsZ, lsS])
  refine wpAnyH_take (i := 7) (v := ?_) rfl (by kernel_rfl) (by kernel_rfl) (by kernel_rfl) (fun _ _ _ h => h) (Or.inl ⟨by rfl, ?_⟩) (by assumption) ?_
  rotate_left
  · (intro w hSw; (try dsimp only at hSw); go_simp; (try with_reducible rfl))
  (try simp only [Act.put, lsA, lsZ, lsS])
  refine wpAnyH_take (i := 8) (v := ?_) rfl (by kernel_rfl) (by kernel_rfl) (by kernel_rfl) (fun _ _ _ h => h) (Or.inl ⟨by rfl, ?_⟩) (by assumption) ?_
  rotate_left
  · (intro w hSw; (try dsimp only at hSw); go_simp; (try with_reducible rfl))
  (try simp only [Act.put, lsA, lsZ, lsS])
  refine wpAnyH_take (i := 9) (v := ?_) rfl (by kernel_rfl) (by kernel_rfl) (by kernel_rfl) (fun _ _ _ h => h) (Or.inl ⟨by rfl, ?_⟩) (by assumption) ?_
  rotate_left
  · (intro w hSw; (try dsimp only at hSw); go_simp; (try with_reducible rfl))
  (try simp only [Act.put, lsA, lsZ, lsS])
  refine wpAnyH_take (i := 10) (v := ?_) rfl (by kernel_rfl) (by kernel_rfl) (by kernel_rfl) (fun _ _ _ h => h) (Or.inl ⟨by rfl, ?_⟩) (by assumption) ?_
  rotate_left
  · (intro w hSw; (try dsimp only at hSw); go_simp; (try with_reducible rfl))
  (try simp only [Act.put, lsA, lsZ, lsS])
  refine wpAnyH_ready (rs := [11]) (by kernel_rfl) (by simp) ?_
  refine AllReadyH.cons rfl (fun K hK => ?_) AllReadyH.nil
  go_simp
  refine (sum_n (some ad) (n - 4) c w.heap.size (l.take (n - 4)) hlt hl2 (by omega) _ (SS _ (Below.drew (Below.refl _ _))).2.2).mono ?_
  rintro en w2 ⟨rfl, rfl⟩
  go_wp2_with fail
  refine hK.out _ _ (SS _ (Below.drew (Below.refl _ _))) (fun hHeld => ?_)
  clear hK K
  (try simp only [Act.put, lsA, lsZ, lsS])
  refine wpAnyH_ready (rs := [12]) (by kernel_rfl) (by simp) ?_
  refine AllReadyH.cons rfl (fun K hK => ?_) AllReadyH.nil
  go_simp
  refine (told_any _ hcr _).mono ?_
  rintro en w2 ⟨rfl, rfl⟩
  go_wp2_with fail
  refine hK.out _ _ (SS _ (Below.drew (Below.alloc (Below.refl _ _) (Nat.le_refl _) _))) (fun hHeld => ?_)
  clear hK K
  (try simp only [Act.put, lsA, lsZ, lsS])
  refine wpAnyH_ready (rs := [13]) (by kernel_rfl) (by simp) ?_
  refine AllReadyH.cons rfl (fun K hK => ?_) AllReadyH.nil
  go_simp
  refine hK.out _ _ (SS _ (Below.drew (Below.alloc (Below.refl _ _) (Nat.le_refl _) _))) (fun hHeld => ?_)
  clear hK K
  (try simp only [Act.put, lsA, lsZ, lsS])
  refine wpAnyH_ready (rs := [14]) (by kernel_rfl) (by simp) ?_
  refine AllReadyH.cons rfl (fun K hK => ?_) AllReadyH.nil
  go_simp
  refine hK.out _ _ (SS _ (Below.drew (Below.alloc (Below.refl _ _) (Nat.le_refl _) _))) (fun hHeld => ?_)
  clear hK K
  (try simp only [Act.put, lsA, lsZ, lsS])
  refine wpAnyH_ready (rs := [15]) (by kernel_rfl) (by simp) ?_
  refine AllReadyH.cons rfl (fun K hK => ?_) AllReadyH.nil
  go_simp
  refine hK.out _ _ (SS _ (Below.drew (Below.alloc (Below.refl _ _) (Nat.le_refl _) _))) (fun hHeld => ?_)
  clear hK K
  (try simp only [Act.put, lsA, lsZ, lsS])
  refine wpAnyH_done (by kernel_rfl) ?_ _
  go_wp2
  go_ret3
  exact ⟨rfl, Below.drew (Below.alloc (Below.refl _ _) (Nat.le_refl _) _)⟩
set_option maxRecDepth 100000 in
set_option maxHeartbeats 4000000 in
theorem take_form (ad : Addr) (n c : Nat) (l : List Nat) (hnl : l.length = n) (hn : 9 ≤ n) (hm : n ≤ 10000) (hc : n ≤ c) (hl : ∀ b ∈ l, b < 256) (w : World) (hR : Reads w w.heap.size 1 (some ad) n (bytes l)) (hs : l.drop (n - 4) = told (crc (l.take (n - 4)))) (hf : ¬ (l.getD 0 0 = 72 ∧ l.getD 1 0 = 1 ∧ l.getD 3 0 * 256 + l.getD 4 0 = n - 9 ∧ n - 9 ≤ 4096)) :
    Calls Try.prog 23 #[.slice (some ad) n c] w fun en w' => en = .returned (.tuple #[.int .u8 0, .slice none 0 0, .int .i64 41]) ∧ Below w.heap.size w w' := by
  have e1 : IntKind.i64.wrap ((n : Int) - 5) = (n : Int) - 5 := IntWalk.i64_in _ (by omega)
  have e2 : IntKind.i64.wrap ((n : Int) - 5 - 4) = (n : Int) - 5 - 4 := IntWalk.i64_in _ (by omega)
  have h1 : decide ((n : Int) - 5 - 4 < 0) = false := decide_eq_false (by omega)
  have e3 : IntKind.i64.wrap ((n : Int) - 4) = (n : Int) - 4 := IntWalk.i64_in _ (by omega)
  have e4 : ((n : Int) - 4).toNat = n - 4 := by omega
  have e5 : n - (n - 4) = 4 := by omega
  have e6 : (0 : Int) ≤ n - 4 := by omega
  have e7 : ((n : Int) - 4) ≤ n := by omega
  have e8 : ((n : Int) - 4) ≤ c := by omega
  have e9 : n - 4 ≤ n := by omega
  have ea : (4 : Int) ≤ n := by omega
  have eb : ¬ c = n - 4 := by omega
  have ec : c ≠ n - 4 := by omega
  have ed : n - 4 ≤ c := by omega
  have ee : (n : Int) ≤ c := by omega
  have hl1 : ∀ b ∈ l.drop (n - 4), b < 256 := fun b hb => hl b (List.mem_of_mem_drop hb)
  have hl2 : ∀ b ∈ l.take (n - 4), b < 256 := fun b hb => hl b (List.mem_of_mem_take hb)
  have hcr := crc_lt (l.take (n - 4))
  have hd := strOf_inj hl1 (told_lt hcr)
  rw [decide_eq_true hs] at hd
  have hRd := hR.drop_ (k := n - 4) e9
  rw [e5, show (bytes l).drop (n - 4) = bytes (l.drop (n - 4)) from (List.map_drop ..).symm] at hRd
  have hRt := hR.take_ (k := n - 4) e9
  rw [show (bytes l).take (n - 4) = bytes (l.take (n - 4)) from (List.map_take ..).symm] at hRt
  have hlt : (l.take (n - 4)).length = n - 4 := by simp; omega
  have hld : (l.drop (n - 4)).length = 4 := by simp; omega
  have SS : ∀ w', Below w.heap.size w w' → Below w.heap.size w w' ∧ (convert 34 9 (.slice (some (ad.add (n - 4))) 4 (c - (n - 4)))).run Try.prog w' = .ok (.string (strOf (l.drop (n - 4)))) w' ∧ Reads w' w.heap.size 1 (some ad) (n - 4) (bytes (l.take (n - 4))) := fun w' hb => ⟨hb, conv_str hld hl1 (hRd.below hb), hRt.below hb⟩
  have kx : (convert 34 9 (.slice (some ⟨w.heap.size, 0, none⟩) 4 4)).run Try.prog (w.alloc (.cells (bytes (told (crc (l.take (n - 4))))).toArray 5)).drew = .ok (.string (strOf (told (crc (l.take (n - 4)))))) (w.alloc (.cells (bytes (told (crc (l.take (n - 4))))).toArray 5)).drew := conv_str (w := (w.alloc (.cells (bytes (told (crc (l.take (n - 4))))).toArray 5)).drew) (c := 4) (l := told (crc (l.take (n - 4)))) rfl (told_lt hcr) (Reads.below (reads_new w (bytes (told (crc (l.take (n - 4))))) 5 4 rfl) (Below.drew (Below.refl _ _)))
  have hcell : ∀ i, i < 5 → (w.alloc (.cells (bytes (told (crc (l.take (n - 4))))).toArray 5)).cell? (ad.add i) = some (.int .u8 ((l.getD i 0 : Nat) : Int)) := fun i hi => by
    obtain ⟨ad', e, hb, hx⟩ := (hR.below (Below.alloc (Below.refl _ w) (Nat.le_refl _) _ : Below w.heap.size w (w.alloc (.cells (bytes (told (crc (l.take (n - 4))))).toArray 5)))).2 (by omega)
    injection e with e
    subst e
    exact hx i _ (by rw [List.getElem?_map, List.getElem?_eq_getElem (by omega)]; simp [List.getD_eq_getElem?_getD, List.getElem?_eq_getElem (show i < l.length by omega)])
  have c0 := hcell 0 (by omega)
  rw [Addr.add_zero'] at c0
  have c1 := hcell 1 (by omega)
  rw [show ad.add 1 = ⟨ad.block, ad.off + 1, none⟩ from rfl] at c1
  have c2 := hcell 2 (by omega)
  rw [show ad.add 2 = ⟨ad.block, ad.off + 2, none⟩ from rfl] at c2
  have c3 := hcell 3 (by omega)
  rw [show ad.add 3 = ⟨ad.block, ad.off + 3, none⟩ from rfl] at c3
  have c4 := hcell 4 (by omega)
  rw [show ad.add 4 = ⟨ad.block, ad.off + 4, none⟩ from rfl] at c4
  have hb3 : l.getD 3 0 < 256 := by rw [List.getD_eq_getElem?_getD, List.getElem?_eq_getElem (by omega)]; exact hl _ (List.getElem_mem _)
  have hb4 : l.getD 4 0 < 256 := by rw [List.getD_eq_getElem?_getD, List.getElem?_eq_getElem (by omega)]; exact hl _ (List.getElem_mem _)
  have i0 : (0 : Int) < n := by omega
  have i1 : (1 : Int) < n := by omega
  have i2 : (2 : Int) < n := by omega
  have i3 : (3 : Int) < n := by omega
  have i4 : (4 : Int) < n := by omega
  clear hcell
  generalize l.getD 0 0 = b0 at *
  generalize l.getD 1 0 = b1 at *
  generalize l.getD 2 0 = b2 at *
  generalize l.getD 3 0 = b3 at *
  generalize l.getD 4 0 = b4 at *
  clear hRd hRt hR
  go_enter Try.func23, Try.ntmps23
  go_wp2_with fail
  refine wp_region_held_drew (S := (fun w' => Below w.heap.size w w' ∧ (convert 34 9 (.slice (some (ad.add (n - 4))) 4 (c - (n - 4)))).run Try.prog w' = .ok (.string (strOf (l.drop (n - 4)))) w' ∧ Reads w' w.heap.size 1 (some ad) (n - 4) (bytes (l.take (n - 4))))) (by kernel_rfl) (SS _ (Below.drew (Below.refl _ _))) (fun hHeld => ?_)
  refine wpAnyH_take (i := 0) (v := ?_) rfl (by kernel_rfl) (by kernel_rfl) (by kernel_rfl) (fun _ _ _ h => h) (Or.inl ⟨by rfl, ?_⟩) (by assumption) ?_
  rotate_left
  · (intro w hSw; (try dsimp only at hSw); go_simp; (try with_reducible rfl))
  (try simp only [Act.put, lsA, lsZ, lsS])
  refine wpAnyH_take (i := 1) (v := ?_) rfl (by kernel_rfl) (by kernel_rfl) (by kernel_rfl) (fun _ _ _ h => h) (Or.inl ⟨by rfl, ?_⟩) (by assumption) ?_
  rotate_left
  · (intro w hSw; (try dsimp only at hSw); go_simp; (try with_reducible rfl))
  (try simp only [Act.put, lsA, lsZ, lsS])
  refine wpAnyH_take (i := 2) (v := ?_) rfl (by kernel_rfl) (by kernel_rfl) (by kernel_rfl) (fun _ _ _ h => h) (Or.inl ⟨by rfl, ?_⟩) (by assumption) ?_
  rotate_left
  · (intro w hSw; (try dsimp only at hSw); go_simp; (try with_reducible rfl))
  (try simp only [Act.put, lsA, lsZ, lsS])
  refine wpAnyH_take (i := 3) (v := ?_) rfl (by kernel_rfl) (by kernel_rfl) (by kernel_rfl) (fun _ _ _ h => h) (Or.inl ⟨by rfl, ?_⟩) (by assumption) ?_
  rotate_left
  · (intro w hSw; (try dsimp only at hSw); go_simp; (try with_reducible rfl))
  (try simp only [Act.put, lsA, lsZ, lsS])
  refine wpAnyH_take (i := 4) (v := ?_) rfl (by kernel_rfl) (by kernel_rfl) (by kernel_rfl) (fun _ _ _ h => h) (Or.inl ⟨by rfl, ?_⟩) (by assumption) ?_
  rotate_left
  · (intro w hSw; (try dsimp only at hSw); go_simp; (try with_reducible rfl))
  (try simp only [Act.put, lsA, lsZ, lsS])
  refine wpAnyH_take (i := 5) (v := ?_) rfl (by kernel_rfl) (by kernel_rfl) (by kernel_rfl) (fun _ _ _ h => h) (Or.inl ⟨by rfl, ?_⟩) (by assumption) ?_
  rotate_left
  · (intro w hSw; (try dsimp only at hSw); go_simp; (try with_reducible rfl))
  (try simp only [Act.put, lsA, lsZ, lsS])
  refine wpAnyH_take (i := 6) (v := ?_) rfl (by kernel_rfl) (by kernel_rfl) (by kernel_rfl) (fun _ _ _ h => h) (Or.inl ⟨by rfl, ?_⟩) (by assumption) ?_
  rotate_left
  · (intro w hSw; (try dsimp only at hSw); go_simp; (try with_reducible rfl))
  (try simp only [Act.put, lsA, lsZ, lsS])
  refine wpAnyH_take (i := 7) (v := ?_) rfl (by kernel_rfl) (by kernel_rfl) (by kernel_rfl) (fun _ _ _ h => h) (Or.inl ⟨by rfl, ?_⟩) (by assumption) ?_
  rotate_left
  · (intro w hSw; (try dsimp only at hSw); go_simp; (try with_reducible rfl))
  (try simp only [Act.put, lsA, lsZ, lsS])
  refine wpAnyH_take (i := 8) (v := ?_) rfl (by kernel_rfl) (by kernel_rfl) (by kernel_rfl) (fun _ _ _ h => h) (Or.inl ⟨by rfl, ?_⟩) (by assumption) ?_
  rotate_left
  · (intro w hSw; (try dsimp only at hSw); go_simp; (try with_reducible rfl))
  (try simp only [Act.put, lsA, lsZ, lsS])
  refine wpAnyH_take (i := 9) (v := ?_) rfl (by kernel_rfl) (by kernel_rfl) (by kernel_rfl) (fun _ _ _ h => h) (Or.inl ⟨by rfl, ?_⟩) (by assumption) ?_
  rotate_left
  · (intro w hSw; (try dsimp only at hSw); go_simp; (try with_reducible rfl))
  (try simp only [Act.put, lsA, lsZ, lsS])
  refine wpAnyH_take (i := 10) (v := ?_) rfl (by kernel_rfl) (by kernel_rfl) (by kernel_rfl) (fun _ _ _ h => h) (Or.inl ⟨by rfl, ?_⟩) (by assumption) ?_
  rotate_left
  · (intro w hSw; (try dsimp only at hSw); go_simp; (try with_reducible rfl))
  (try simp only [Act.put, lsA, lsZ, lsS])
  refine wpAnyH_ready (rs := [11]) (by kernel_rfl) (by simp) ?_
  refine AllReadyH.cons rfl (fun K hK => ?_) AllReadyH.nil
  go_simp
  refine (sum_n (some ad) (n - 4) c w.heap.size (l.take (n - 4)) hlt hl2 (by omega) _ (SS _ (Below.drew (Below.refl _ _))).2.2).mono ?_
  rintro en w2 ⟨rfl, rfl⟩
  go_wp2_with fail
  refine hK.out _ _ (SS _ (Below.drew (Below.refl _ _))) (fun hHeld => ?_)
  clear hK K
  (try simp only [Act.put, lsA, lsZ, lsS])
  refine wpAnyH_ready (rs := [12]) (by kernel_rfl) (by simp) ?_
  refine AllReadyH.cons rfl (fun K hK => ?_) AllReadyH.nil
  go_simp
  refine (told_any _ hcr _).mono ?_
  rintro en w2 ⟨rfl, rfl⟩
  go_wp2_with fail
  refine hK.out _ _ (SS _ (Below.drew (Below.alloc (Below.refl _ _) (Nat.le_refl _) _))) (fun hHeld => ?_)
  clear hK K
  (try simp only [Act.put, lsA, lsZ, lsS])
  refine wpAnyH_ready (rs := [13]) (by kernel_rfl) (by simp) ?_
  refine AllReadyH.cons rfl (fun K hK => ?_) AllReadyH.nil
  go_simp
  refine hK.out _ _ (SS _ (Below.drew (Below.alloc (Below.refl _ _) (Nat.le_refl _) _))) (fun hHeld => ?_)
  clear hK K
  (try simp only [Act.put, lsA, lsZ, lsS])
  refine wpAnyH_ready (rs := [14]) (by kernel_rfl) (by simp) ?_
  refine AllReadyH.cons rfl (fun K hK => ?_) AllReadyH.nil
  go_simp
  refine hK.out _ _ (SS _ (Below.drew (Below.alloc (Below.refl _ _) (Nat.le_refl _) _))) (fun hHeld => ?_)
  clear hK K
  (try simp only [Act.put, lsA, lsZ, lsS])
  refine wpAnyH_ready (rs := [15]) (by kernel_rfl) (by simp) ?_
  refine AllReadyH.cons rfl (fun K hK => ?_) AllReadyH.nil
  go_simp
  refine hK.out _ _ (SS _ (Below.drew (Below.alloc (Below.refl _ _) (Nat.le_refl _) _))) (fun hHeld => ?_)
  clear hK K
  (try simp only [Act.put, lsA, lsZ, lsS])
  refine wpAnyH_done (by kernel_rfl) ?_ _
  have hbx : ((b0 : Int) == 72) = true ∨ ((b0 : Int) == 72) = false := by cases h : ((b0 : Int) == 72) <;> simp
  have hby : ((b1 : Int) == 1) = true ∨ ((b1 : Int) == 1) = false := by cases h : ((b1 : Int) == 1) <;> simp
  rcases hbx with hbx | hbx
  · rcases hby with hby | hby
    · have hor := or_two b3 b4 hb3 hb4
      have hbz : ((bits .or .i64 ((b3 : Int) * 256) (b4 : Int)) != (n : Int) - 5 - 4) = true ∨ ((bits .or .i64 ((b3 : Int) * 256) (b4 : Int)) != (n : Int) - 5 - 4) = false := by cases h : ((bits .or .i64 ((b3 : Int) * 256) (b4 : Int)) != (n : Int) - 5 - 4) <;> simp
      rcases hbz with hbz | hbz
      · clear hor
        go_wp2_with fail
        go_quiet (fail)
        go_wp2
        go_ret3
        first | exact ⟨rfl, below_drewN (Below.drew (Below.alloc (Below.refl _ _) (Nat.le_refl _) _)) _⟩ | exact ⟨rfl, below_drewN (Below.alloc (Below.refl _ _) (Nat.le_refl _) _) _⟩
      · have hbig : decide ((4096 : Int) < (n : Int) - 5 - 4) = true := by
          rw [hor] at hbz
          simp at hbx hby hbz
          simp
          omega
        clear hor
        go_wp2_with fail
        go_quiet (fail)
        go_wp2
        go_ret3
        first | exact ⟨rfl, below_drewN (Below.drew (Below.alloc (Below.refl _ _) (Nat.le_refl _) _)) _⟩ | exact ⟨rfl, below_drewN (Below.alloc (Below.refl _ _) (Nat.le_refl _) _) _⟩
    · go_wp2
      go_ret3
      exact ⟨rfl, Below.drew (Below.alloc (Below.refl _ _) (Nat.le_refl _) _)⟩
  · go_wp2
    go_ret3
    exact ⟨rfl, Below.drew (Below.alloc (Below.refl _ _) (Nat.le_refl _) _)⟩
theorem fstep_append_any {P : Program} (w : World) {ops : Array Oper} {o : Oper} {a : Act} {K : Act → World → Prop} {Q : Exit → Act → World → Prop} {E : Prop} (hgd : o.guard = none) (s x : Operand) (t : TypeId)
    (ho : o.op = .call { callee := .builtin .append, args := #[s, x], argTypes := #[t, t] })
    (base : Nat) (e : TypeId) (i : TypeInfo) (z : Value) (size bytes : Nat) (ht : P.underlying t = some (.slice e)) (hi : P.info? e = some i) (hz : i.zero = some z)
    (hsize : i.size = size) (hby : i.bytes = bytes) (hzs : z.cells.size = size) (hsz : 0 < size)
    (v : Value) (n : Nat) (xs : List Value) (hs : a.eval s = v) (hown : w.ownsRow base e size v n xs)
    (B : Nat) (A : Option Addr) (m c : Nat) (news : List Value) (hx : a.eval x = .slice A m c) (hr : Reads w B size A m news) (h1 : ∀ u ∈ news, u.oneCell' = true)
    (h63 : n + m ≤ maxLen) (hbytes : (n + m) * bytes ≤ 140737488355328) (hbase : base ≤ w.heap.size)
    (h : ∀ v' w', w'.ownsRow base e size v' (n + m) (xs ++ news) → w.grownBy w' v.ownBlock → (v'.ownBlock = v.ownBlock ∨ v'.ownBlock = some w.heap.size) → K (a.put o.dst v') w') :
    if Region.wanted o (yielded ops a.tmps) = true then Oper.wp P o a w K Q else E := by
  have hw : Region.wanted o (yielded ops a.tmps) = true := by simp [Region.wanted, hgd]
  rw [if_pos hw]
  exact wp_append_any w s x t ho base e i z size bytes ht hi hz hsize hby hzs hsz v n xs hs hown B A m c news hx hr h1 h63 hbytes hbase h
def content (l : List Nat) : List Nat := (l.drop 5).take (l.length - 9)
def TakePost (w : World) (l : List Nat) (en : Ending) (w' : World) : Prop := ∃ v, en = .returned (.tuple #[.int .u8 (l.getD 2 0 : Nat), v, .int .i64 0]) ∧ Owns w w' v (content l) ∧ Below w.heap.size w w'
set_option maxRecDepth 100000 in
set_option maxHeartbeats 4000000 in
theorem take_ok (ad : Addr) (n c : Nat) (l : List Nat) (hnl : l.length = n) (hn : 9 ≤ n) (hm : n ≤ 10000) (hc : n ≤ c) (hl : ∀ b ∈ l, b < 256) (w : World) (hR : Reads w w.heap.size 1 (some ad) n (bytes l)) (hs : l.drop (n - 4) = told (crc (l.take (n - 4)))) (hf : l.getD 0 0 = 72 ∧ l.getD 1 0 = 1 ∧ l.getD 3 0 * 256 + l.getD 4 0 = n - 9 ∧ n - 9 ≤ 4096) :
    Calls Try.prog 23 #[.slice (some ad) n c] w (TakePost w l) := by
  have e1 : IntKind.i64.wrap ((n : Int) - 5) = (n : Int) - 5 := IntWalk.i64_in _ (by omega)
  have e2 : IntKind.i64.wrap ((n : Int) - 5 - 4) = (n : Int) - 5 - 4 := IntWalk.i64_in _ (by omega)
  have h1 : decide ((n : Int) - 5 - 4 < 0) = false := decide_eq_false (by omega)
  have e3 : IntKind.i64.wrap ((n : Int) - 4) = (n : Int) - 4 := IntWalk.i64_in _ (by omega)
  have e4 : ((n : Int) - 4).toNat = n - 4 := by omega
  have e5 : n - (n - 4) = 4 := by omega
  have e6 : (0 : Int) ≤ n - 4 := by omega
  have e7 : ((n : Int) - 4) ≤ n := by omega
  have e8 : ((n : Int) - 4) ≤ c := by omega
  have e9 : n - 4 ≤ n := by omega
  have ea : (4 : Int) ≤ n := by omega
  have eb : ¬ c = n - 4 := by omega
  have ec : c ≠ n - 4 := by omega
  have ed : n - 4 ≤ c := by omega
  have ee : (n : Int) ≤ c := by omega
  have hl1 : ∀ b ∈ l.drop (n - 4), b < 256 := fun b hb => hl b (List.mem_of_mem_drop hb)
  have hl2 : ∀ b ∈ l.take (n - 4), b < 256 := fun b hb => hl b (List.mem_of_mem_take hb)
  have hcr := crc_lt (l.take (n - 4))
  have hd := strOf_inj hl1 (told_lt hcr)
  rw [decide_eq_true hs] at hd
  have hRd := hR.drop_ (k := n - 4) e9
  rw [e5, show (bytes l).drop (n - 4) = bytes (l.drop (n - 4)) from (List.map_drop ..).symm] at hRd
  have hRt := hR.take_ (k := n - 4) e9
  rw [show (bytes l).take (n - 4) = bytes (l.take (n - 4)) from (List.map_take ..).symm] at hRt
  have hlt : (l.take (n - 4)).length = n - 4 := by simp; omega
  have hld : (l.drop (n - 4)).length = 4 := by simp; omega
  have SS : ∀ w', Below w.heap.size w w' → Below w.heap.size w w' ∧ (convert 34 9 (.slice (some (ad.add (n - 4))) 4 (c - (n - 4)))).run Try.prog w' = .ok (.string (strOf (l.drop (n - 4)))) w' ∧ Reads w' w.heap.size 1 (some ad) (n - 4) (bytes (l.take (n - 4))) := fun w' hb => ⟨hb, conv_str hld hl1 (hRd.below hb), hRt.below hb⟩
  have kx : (convert 34 9 (.slice (some ⟨w.heap.size, 0, none⟩) 4 4)).run Try.prog (w.alloc (.cells (bytes (told (crc (l.take (n - 4))))).toArray 5)).drew = .ok (.string (strOf (told (crc (l.take (n - 4)))))) (w.alloc (.cells (bytes (told (crc (l.take (n - 4))))).toArray 5)).drew := conv_str (w := (w.alloc (.cells (bytes (told (crc (l.take (n - 4))))).toArray 5)).drew) (c := 4) (l := told (crc (l.take (n - 4)))) rfl (told_lt hcr) (Reads.below (reads_new w (bytes (told (crc (l.take (n - 4))))) 5 4 rfl) (Below.drew (Below.refl _ _)))
  obtain ⟨i0v, hinf, hz0, hz1, hz2⟩ := info_parts finfo5
  have hct : (content l).length = n - 9 := by simp [content]; omega
  have hRc : Reads w w.heap.size 1 (some ⟨ad.block, ad.off + 5, none⟩) (n - 9) (bytes (content l)) := by
    have := (hR.drop_ (k := 5) (by omega)).take_ (k := n - 9) (by omega)
    rw [show (bytes l).drop 5 = bytes (l.drop 5) from (List.map_drop ..).symm, show (bytes (l.drop 5)).take (n - 9) = bytes ((l.drop 5).take (n - 9)) from (List.map_take ..).symm, ← hnl] at this
    rw [← hnl]
    exact this
  have hlc : ∀ b ∈ content l, b < 256 := fun b hb => hl b (List.mem_of_mem_drop (List.mem_of_mem_take hb))
  generalize hcon : content l = con at *
  have hb2g : l.getD 2 0 = l.getD 2 0 := rfl
  have hcell : ∀ i, i < 5 → (w.alloc (.cells (bytes (told (crc (l.take (n - 4))))).toArray 5)).cell? (ad.add i) = some (.int .u8 ((l.getD i 0 : Nat) : Int)) := fun i hi => by
    obtain ⟨ad', e, hb, hx⟩ := (hR.below (Below.alloc (Below.refl _ w) (Nat.le_refl _) _ : Below w.heap.size w (w.alloc (.cells (bytes (told (crc (l.take (n - 4))))).toArray 5)))).2 (by omega)
    injection e with e
    subst e
    exact hx i _ (by rw [List.getElem?_map, List.getElem?_eq_getElem (by omega)]; simp [List.getD_eq_getElem?_getD, List.getElem?_eq_getElem (show i < l.length by omega)])
  have c0 := hcell 0 (by omega)
  rw [Addr.add_zero'] at c0
  have c1 := hcell 1 (by omega)
  rw [show ad.add 1 = ⟨ad.block, ad.off + 1, none⟩ from rfl] at c1
  have c2 := hcell 2 (by omega)
  rw [show ad.add 2 = ⟨ad.block, ad.off + 2, none⟩ from rfl] at c2
  have c3 := hcell 3 (by omega)
  rw [show ad.add 3 = ⟨ad.block, ad.off + 3, none⟩ from rfl] at c3
  have c4 := hcell 4 (by omega)
  rw [show ad.add 4 = ⟨ad.block, ad.off + 4, none⟩ from rfl] at c4
  have hb3 : l.getD 3 0 < 256 := by rw [List.getD_eq_getElem?_getD, List.getElem?_eq_getElem (by omega)]; exact hl _ (List.getElem_mem _)
  have hb4 : l.getD 4 0 < 256 := by rw [List.getD_eq_getElem?_getD, List.getElem?_eq_getElem (by omega)]; exact hl _ (List.getElem_mem _)
  have i0 : (0 : Int) < n := by omega
  have i1 : (1 : Int) < n := by omega
  have i2 : (2 : Int) < n := by omega
  have i3 : (3 : Int) < n := by omega
  have i4 : (4 : Int) < n := by omega
  clear hcell
  generalize hg2 : l.getD 2 0 = b2 at *
  generalize l.getD 0 0 = b0 at *
  generalize l.getD 1 0 = b1 at *
  generalize l.getD 3 0 = b3 at *
  generalize l.getD 4 0 = b4 at *
  obtain ⟨f0, f1, f3, f4⟩ := hf
  have hor := or_two b3 b4 hb3 hb4
  have hbx : ((b0 : Int) == 72) = true := by simp; omega
  have hby : ((b1 : Int) == 1) = true := by simp; omega
  have hbz : ((bits .or .i64 ((b3 : Int) * 256) (b4 : Int)) != (n : Int) - 5 - 4) = false := by rw [hor]; simp; omega
  have hbig : decide ((4096 : Int) < (n : Int) - 5 - 4) = false := by simp; omega
  have hadb : ad.block < w.heap.size := by
    obtain ⟨ad', e, hb, _⟩ := hR.2 (by omega)
    injection e with e
    subst e
    exact hb
  have c20 : w.cell? ⟨ad.block, ad.off + 2, none⟩ = some (.int .u8 (b2 : Int)) := by
    have : (w.alloc (.cells (bytes (told (crc (l.take (n - 4))))).toArray 5)).cell? ⟨ad.block, ad.off + 2, none⟩ = w.cell? ⟨ad.block, ad.off + 2, none⟩ := (Below.alloc (Below.refl _ w) (Nat.le_refl _) _ : Below w.heap.size w _).cell (p := ⟨ad.block, ad.off + 2, none⟩) hadb
    rw [← this]; exact c2
  have TT : ∀ w', Below w.heap.size w w' → Below w.heap.size w w' ∧ w'.cell? ⟨ad.block, ad.off + 2, none⟩ = some (.int .u8 (b2 : Int)) ∧ Reads w' w.heap.size 1 (some ⟨ad.block, ad.off + 5, none⟩) (n - 9) (bytes con) := fun w' hb => ⟨hb, (hb.cell (p := ⟨ad.block, ad.off + 2, none⟩) hadb).trans c20, hRc.below hb⟩
  have g1 : n - 4 - 5 = n - 9 := by omega
  have g2 : (5 : Int) ≤ (n : Int) - 4 := by omega
  have g3 : ((n : Int) - 4).toNat = n - 4 := by omega
  have g4 : (9 : Int) ≤ n := by omega
  clear hor f0 f1 f3 hRd hRt hR
  go_enter Try.func23, Try.ntmps23
  go_wp2_with fail
  refine wp_region_held_drew (S := (fun w' => Below w.heap.size w w' ∧ (convert 34 9 (.slice (some (ad.add (n - 4))) 4 (c - (n - 4)))).run Try.prog w' = .ok (.string (strOf (l.drop (n - 4)))) w' ∧ Reads w' w.heap.size 1 (some ad) (n - 4) (bytes (l.take (n - 4))))) (by kernel_rfl) (SS _ (Below.drew (Below.refl _ _))) (fun hHeld => ?_)
  refine wpAnyH_take (i := 0) (v := ?_) rfl (by kernel_rfl) (by kernel_rfl) (by kernel_rfl) (fun _ _ _ h => h) (Or.inl ⟨by rfl, ?_⟩) (by assumption) ?_
  rotate_left
  · (intro w hSw; (try dsimp only at hSw); go_simp; (try with_reducible rfl))
  (try simp only [Act.put, lsA, lsZ, lsS])
  refine wpAnyH_take (i := 1) (v := ?_) rfl (by kernel_rfl) (by kernel_rfl) (by kernel_rfl) (fun _ _ _ h => h) (Or.inl ⟨by rfl, ?_⟩) (by assumption) ?_
  rotate_left
  · (intro w hSw; (try dsimp only at hSw); go_simp; (try with_reducible rfl))
  (try simp only [Act.put, lsA, lsZ, lsS])
  refine wpAnyH_take (i := 2) (v := ?_) rfl (by kernel_rfl) (by kernel_rfl) (by kernel_rfl) (fun _ _ _ h => h) (Or.inl ⟨by rfl, ?_⟩) (by assumption) ?_
  rotate_left
  · (intro w hSw; (try dsimp only at hSw); go_simp; (try with_reducible rfl))
  (try simp only [Act.put, lsA, lsZ, lsS])
  refine wpAnyH_take (i := 3) (v := ?_) rfl (by kernel_rfl) (by kernel_rfl) (by kernel_rfl) (fun _ _ _ h => h) (Or.inl ⟨by rfl, ?_⟩) (by assumption) ?_
  rotate_left
  · (intro w hSw; (try dsimp only at hSw); go_simp; (try with_reducible rfl))
  (try simp only [Act.put, lsA, lsZ, lsS])
  refine wpAnyH_take (i := 4) (v := ?_) rfl (by kernel_rfl) (by kernel_rfl) (by kernel_rfl) (fun _ _ _ h => h) (Or.inl ⟨by rfl, ?_⟩) (by assumption) ?_
  rotate_left
  · (intro w hSw; (try dsimp only at hSw); go_simp; (try with_reducible rfl))
  (try simp only [Act.put, lsA, lsZ, lsS])
  refine wpAnyH_take (i := 5) (v := ?_) rfl (by kernel_rfl) (by kernel_rfl) (by kernel_rfl) (fun _ _ _ h => h) (Or.inl ⟨by rfl, ?_⟩) (by assumption) ?_
  rotate_left
  · (intro w hSw; (try dsimp only at hSw); go_simp; (try with_reducible rfl))
  (try simp only [Act.put, lsA, lsZ, lsS])
  refine wpAnyH_take (i := 6) (v := ?_) rfl (by kernel_rfl) (by kernel_rfl) (by kernel_rfl) (fun _ _ _ h => h) (Or.inl ⟨by rfl, ?_⟩) (by assumption) ?_
  rotate_left
  · (intro w hSw; (try dsimp only at hSw); go_simp; (try with_reducible rfl))
  (try simp only [Act.put, lsA, lsZ, lsS])
  refine wpAnyH_take (i := 7) (v := ?_) rfl (by kernel_rfl) (by kernel_rfl) (by kernel_rfl) (fun _ _ _ h => h) (Or.inl ⟨by rfl, ?_⟩) (by assumption) ?_
  rotate_left
  · (intro w hSw; (try dsimp only at hSw); go_simp; (try with_reducible rfl))
  (try simp only [Act.put, lsA, lsZ, lsS])
  refine wpAnyH_take (i := 8) (v := ?_) rfl (by kernel_rfl) (by kernel_rfl) (by kernel_rfl) (fun _ _ _ h => h) (Or.inl ⟨by rfl, ?_⟩) (by assumption) ?_
  rotate_left
  · (intro w hSw; (try dsimp only at hSw); go_simp; (try with_reducible rfl))
  (try simp only [Act.put, lsA, lsZ, lsS])
  refine wpAnyH_take (i := 9) (v := ?_) rfl (by kernel_rfl) (by kernel_rfl) (by kernel_rfl) (fun _ _ _ h => h) (Or.inl ⟨by rfl, ?_⟩) (by assumption) ?_
  rotate_left
  · (intro w hSw; (try dsimp only at hSw); go_simp; (try with_reducible rfl))
  (try simp only [Act.put, lsA, lsZ, lsS])
  refine wpAnyH_take (i := 10) (v := ?_) rfl (by kernel_rfl) (by kernel_rfl) (by kernel_rfl) (fun _ _ _ h => h) (Or.inl ⟨by rfl, ?_⟩) (by assumption) ?_
  rotate_left
  · (intro w hSw; (try dsimp only at hSw); go_simp; (try with_reducible rfl))
  (try simp only [Act.put, lsA, lsZ, lsS])
  refine wpAnyH_ready (rs := [11]) (by kernel_rfl) (by simp) ?_
  refine AllReadyH.cons rfl (fun K hK => ?_) AllReadyH.nil
  go_simp
  refine (sum_n (some ad) (n - 4) c w.heap.size (l.take (n - 4)) hlt hl2 (by omega) _ (SS _ (Below.drew (Below.refl _ _))).2.2).mono ?_
  rintro en w2 ⟨rfl, rfl⟩
  go_wp2_with fail
  refine hK.out _ _ (SS _ (Below.drew (Below.refl _ _))) (fun hHeld => ?_)
  clear hK K
  (try simp only [Act.put, lsA, lsZ, lsS])
  refine wpAnyH_ready (rs := [12]) (by kernel_rfl) (by simp) ?_
  refine AllReadyH.cons rfl (fun K hK => ?_) AllReadyH.nil
  go_simp
  refine (told_any _ hcr _).mono ?_
  rintro en w2 ⟨rfl, rfl⟩
  go_wp2_with fail
  refine hK.out _ _ (SS _ (Below.drew (Below.alloc (Below.refl _ _) (Nat.le_refl _) _))) (fun hHeld => ?_)
  clear hK K
  (try simp only [Act.put, lsA, lsZ, lsS])
  refine wpAnyH_ready (rs := [13]) (by kernel_rfl) (by simp) ?_
  refine AllReadyH.cons rfl (fun K hK => ?_) AllReadyH.nil
  go_simp
  refine hK.out _ _ (SS _ (Below.drew (Below.alloc (Below.refl _ _) (Nat.le_refl _) _))) (fun hHeld => ?_)
  clear hK K
  (try simp only [Act.put, lsA, lsZ, lsS])
  refine wpAnyH_ready (rs := [14]) (by kernel_rfl) (by simp) ?_
  refine AllReadyH.cons rfl (fun K hK => ?_) AllReadyH.nil
  go_simp
  refine hK.out _ _ (SS _ (Below.drew (Below.alloc (Below.refl _ _) (Nat.le_refl _) _))) (fun hHeld => ?_)
  clear hK K
  (try simp only [Act.put, lsA, lsZ, lsS])
  refine wpAnyH_ready (rs := [15]) (by kernel_rfl) (by simp) ?_
  refine AllReadyH.cons rfl (fun K hK => ?_) AllReadyH.nil
  go_simp
  refine hK.out _ _ (SS _ (Below.drew (Below.alloc (Below.refl _ _) (Nat.le_refl _) _))) (fun hHeld => ?_)
  clear hK K
  (try simp only [Act.put, lsA, lsZ, lsS])
  refine wpAnyH_done (by kernel_rfl) ?_ _
  go_wp2_with fail
  go_quiet (fail)
  go_wp2_with fail
  rename_i nq K0 hK0
  have hW : Below w.heap.size w ((w.alloc (.cells (bytes (told (crc (l.take (n - 4))))).toArray 5)).drewN (1 + nq)) := below_drewN (Below.alloc (Below.refl _ _) (Nat.le_refl _) _) _
  generalize (w.alloc (.cells (bytes (told (crc (l.take (n - 4))))).toArray 5)).drewN (1 + nq) = W at *
  refine wp_region_held_drew (S := (fun w' => Below w.heap.size w w' ∧ w'.cell? ⟨ad.block, ad.off + 2, none⟩ = some (.int .u8 (b2 : Int)) ∧ Reads w' w.heap.size 1 (some ⟨ad.block, ad.off + 5, none⟩) (n - 9) (bytes con))) (by kernel_rfl) (TT _ (Below.drew hW)) (fun hHeld => ?_)
  refine wpAnyH_take (i := 0) (v := ?_) rfl (by kernel_rfl) (by kernel_rfl) (by kernel_rfl) (fun _ _ _ h => h) (Or.inl ⟨by rfl, ?_⟩) (by assumption) ?_
  rotate_left
  · (intro w hSw; (try dsimp only at hSw); go_simp; (try with_reducible rfl))
  (try simp only [Act.put, lsA, lsZ, lsS])
  refine wpAnyH_take (i := 1) (v := ?_) rfl (by kernel_rfl) (by kernel_rfl) (by kernel_rfl) (fun _ _ _ h => h) (Or.inl ⟨by rfl, ?_⟩) (by assumption) ?_
  rotate_left
  · (intro w hSw; (try dsimp only at hSw); go_simp; (try with_reducible rfl))
  (try simp only [Act.put, lsA, lsZ, lsS])
  refine wpAnyH_take (i := 2) (v := ?_) rfl (by kernel_rfl) (by kernel_rfl) (by kernel_rfl) (fun _ _ _ h => h) (Or.inl ⟨by rfl, ?_⟩) (by assumption) ?_
  rotate_left
  · (intro w hSw; (try dsimp only at hSw); go_simp; (try with_reducible rfl))
  (try simp only [Act.put, lsA, lsZ, lsS])
  refine wpAnyH_take (i := 4) (v := ?_) rfl (by kernel_rfl) (by kernel_rfl) (by kernel_rfl) (fun _ _ _ h => h) (Or.inl ⟨by rfl, ?_⟩) (by assumption) ?_
  rotate_left
  · (intro w hSw; (try dsimp only at hSw); go_simp; (try with_reducible rfl))
  (try simp only [Act.put, lsA, lsZ, lsS])
  refine wpAnyH_take (i := 5) (v := ?_) rfl (by kernel_rfl) (by kernel_rfl) (by kernel_rfl) (fun _ _ _ h => h) (Or.inl ⟨by rfl, ?_⟩) (by assumption) ?_
  rotate_left
  · (intro w hSw; (try dsimp only at hSw); go_simp; (try with_reducible rfl))
  (try simp only [Act.put, lsA, lsZ, lsS])
  refine wpAnyH_take (i := 6) (v := ?_) rfl (by kernel_rfl) (by kernel_rfl) (by kernel_rfl) (fun _ _ _ h => h) (Or.inl ⟨by rfl, ?_⟩) (by assumption) ?_
  rotate_left
  · (intro w hSw; (try dsimp only at hSw); go_simp; (try with_reducible rfl))
  (try simp only [Act.put, lsA, lsZ, lsS])
  refine wpAnyH_take (i := 7) (v := ?_) rfl (by kernel_rfl) (by kernel_rfl) (by kernel_rfl) (fun _ _ _ h => h) (Or.inl ⟨by rfl, ?_⟩) (by assumption) ?_
  rotate_left
  · (intro w hSw; (try dsimp only at hSw); go_simp; (try with_reducible rfl))
  (try simp only [Act.put, lsA, lsZ, lsS])
  refine wpAnyH_take (i := 8) (v := ?_) rfl (by kernel_rfl) (by kernel_rfl) (by kernel_rfl) (fun _ _ _ h => h) (Or.inl ⟨by rfl, ?_⟩) (by assumption) ?_
  rotate_left
  · (intro w hSw; (try dsimp only at hSw); go_simp; (try with_reducible rfl))
  (try simp only [Act.put, lsA, lsZ, lsS])
  refine wpAnyH_ready (rs := [3]) (by kernel_rfl) (by simp) ?_
  refine AllReadyH.cons rfl (fun K hK => ?_) AllReadyH.nil
  go_simp
  refine hK.out _ _ (TT _ (Below.alloc (Below.drew hW) hW.size _)) (fun hHeld => ?_)
  clear hK K
  (try simp only [Act.put, lsA, lsZ, lsS])
  refine wpAnyH_ready (rs := [9]) (by kernel_rfl) (by simp) ?_
  refine AllReadyH.cons rfl (fun K hK => ?_) AllReadyH.nil
  refine fstep_append_any _ rfl (.tmp 58) (.tmp 63) _ rfl w.heap.size 5 i0v _ 1 1 Try.underlying34 hinf hz0 hz1 hz2 rfl (by omega) (.slice (some ⟨W.drew.heap.size, 0, none⟩) 0 0) 0 [] rfl (owns_new W.drew w.heap.size hW.size [] 5 0 rfl (by unfold maxLen; omega)) w.heap.size (some ⟨ad.block, ad.off + 5, none⟩) (n - 9) (c - 5) (bytes con) ?_ (TT _ (Below.alloc (Below.drew hW) hW.size _)).2.2 (bytes_one con) (by unfold maxLen; omega) (by omega) (by have := hW.size; simp; omega) ?_
  · (go_simp; (try (intro h5; omega)))
  intro v2 w2 hown2 hgw2 hat2
  simp only [Nat.zero_add, List.nil_append] at hown2
  have hBel2 : Below w.heap.size w w2 := (Below.alloc (Below.drew hW) hW.size _).grown hgw2 (by have := hW.size; simp; omega) (by intro q hq; simp [Value.ownBlock] at hq; have := hW.size; omega)
  refine hK.out _ _ (TT _ hBel2) (fun hHeld => ?_)
  clear hK K
  (try simp only [Act.put, lsA, lsZ, lsS])
  refine wpAnyH_ready (rs := [10]) (by kernel_rfl) (by simp) ?_
  refine AllReadyH.cons rfl (fun K hK => ?_) AllReadyH.nil
  go_simp
  refine hK.out _ _ (TT _ hBel2) (fun hHeld => ?_)
  clear hK K
  (try simp only [Act.put, lsA, lsZ, lsS])
  refine wpAnyH_ready (rs := [11]) (by kernel_rfl) (by simp) ?_
  refine AllReadyH.cons rfl (fun K hK => ?_) AllReadyH.nil
  go_simp
  refine hK.out _ _ (TT _ hBel2) (fun hHeld => ?_)
  clear hK K
  (try simp only [Act.put, lsA, lsZ, lsS])
  refine wpAnyH_ready (rs := [12]) (by kernel_rfl) (by simp) ?_
  refine AllReadyH.cons rfl (fun K hK => ?_) AllReadyH.nil
  go_simp
  refine hK.out _ _ (TT _ hBel2) (fun hHeld => ?_)
  clear hK K
  (try simp only [Act.put, lsA, lsZ, lsS])
  refine wpAnyH_done (by kernel_rfl) ?_ _
  first | apply hK0 | skip
  go_wp2
  go_ret3
  exact ⟨v2, by first | (rw [hg2]; done) | (rw [hg2]; rfl), by rw [hcon]; unfold Owns; rw [hct]; exact hown2, hBel2⟩
end Go.Proofs.Ytjmhefkmpfkpbaa
