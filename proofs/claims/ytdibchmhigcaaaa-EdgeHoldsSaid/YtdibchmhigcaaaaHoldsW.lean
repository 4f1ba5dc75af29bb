/- Edge: the walk of the law EdgeHolds. -/
import Derived.Test.YtdibchmhigcaaaaHoldsP
import Derived.Deep.RegionHeld3
import Derived.Lib.Hide
namespace Go.Proofs.Ytdibchmhigcaaaa.EdgeHolds
open Go.ChangeShapes Go.WideShapes Go.ChangeAt Go.RowKit
set_option linter.unusedSimpArgs false
set_option linter.unusedVariables false
theorem Reads.take_ {w : World} {B n k : Nat} {A : Option Addr} {xs : List Value} (h : Reads w B 1 A n xs) (hk : k ≤ n) : Reads w B 1 A k (xs.take k) := by
  refine ⟨by have := h.1; simp; omega, fun hp => ?_⟩
  obtain ⟨ad, e, hb, hc⟩ := h.2 (by omega)
  refine ⟨ad, e, hb, fun j u hu => hc j u ?_⟩
  rw [List.getElem?_take] at hu
  split at hu
  · exact hu
  · cases hu
theorem Reads.drop_ {w : World} {B n k : Nat} {ad : Addr} {xs : List Value} (h : Reads w B 1 (some ad) n xs) (hk : k ≤ n) : Reads w B 1 (some (ad.add k)) (n - k) (xs.drop k) := by
  refine ⟨by have := h.1; simp; omega, fun hp => ?_⟩
  obtain ⟨ad', e, hb, hc⟩ := h.2 (by omega)
  injection e with e
  subst e
  refine ⟨_, rfl, by rw [block_of_add]; exact hb, fun j u hu => ?_⟩
  rw [List.getElem?_drop] at hu
  rw [Addr.add_add]
  exact hc (k + j) u hu
set_option maxHeartbeats 16000000 in
set_option maxRecDepth 100000 in
theorem mid (ad : Addr) (n c : Nat) (zs : List Int) (hn : zs.length = n) (hnc : n ≤ c) (hm : n ≤ 300) (k : Nat) (hk : k ≤ n) (x : Int) (w : World) (hR : Reads w w.heap.size 1 (some ad) n (ints zs)) (hck : c ≠ k) :
    Calls Try.prog 7 #[.slice (some ad) n c, .int .i64 (k : Int), .int .i64 x] w fun en w' => en = .returned (.bool true) ∧ Below w.heap.size w w' := by
  have d1 : decide ((300 : Int) < n) = false := by simp; omega
  have d2 : decide ((k : Int) < 0) = false := by simp
  have d3 : decide ((n : Int) < k) = false := by simp; omega
  have i1 : (0 : Int) ≤ k := by omega
  have i2 : (k : Int) ≤ n := by omega
  have i3 : (k : Int) ≤ c := by omega
  have i4 : (n : Int) ≤ c := by omega
  have hRt := Reads.take_ hR hk
  rw [show (ints zs).take k = ints (zs.take k) from (List.map_take ..).symm] at hRt
  have hRd : Reads w w.heap.size 1 (some (ad.add k)) (n - k) (ints (zs.drop k)) := by
    have := Reads.drop_ hR hk
    rw [show (ints zs).drop k = ints (zs.drop k) from (List.map_drop ..).symm] at this
    exact this
  have hlt : (zs.take k).length = k := by simp; omega
  have hld : (zs.drop k).length = n - k := by simp; omega
  go_enter Try.func7, Try.ntmps7
  go_wp2_with fail
  refine (alive_any _).mono ?_
  rintro en w1 ⟨rfl, hb1⟩
  have hz1 := hb1.size
  (try simp at hz1)
  go_wp2_with fail
  by_cases h1 : AllOK (zs.take k)
  · obtain ⟨a, ha⟩ : ∃ a, fld (zs.take k) = a := ⟨_, rfl⟩
    refine (lit_all (zs.take k) a 0 ((all_yes_ h1).1.trans ha) (all_yes_ h1).2 _ _ _ hlt (by omega) _ ((hRt.below hb1).more hb1.size)).mono ?_
    rintro en w2 ⟨rfl, hb2⟩
    have hz2 := hb2.size
    (try simp at hz2)
    have hB2 := hb1.trans (hb2.mono hb1.size)
    go_wp2_with fail
    by_cases h2 : AllOK (zs.drop k)
    · obtain ⟨b, hb⟩ : ∃ b, fld (zs.drop k) = b := ⟨_, rfl⟩
      obtain ⟨cc, hcc⟩ : ∃ cc, fld zs = cc := ⟨_, rfl⟩
      have hall := ok_parts h1 h2
      have hjp := join_parts k hall
      rw [ha, hb, hcc] at hjp
      refine (lit_all (zs.drop k) b 0 ((all_yes_ h2).1.trans hb) (all_yes_ h2).2 _ _ _ hld (by omega) _ ((hRd.below (hB2.alloc hB2.size (.cells #[.bool a.1, .int .i64 a.2.1, .int .i64 a.2.2] 24))).more (hB2.alloc hB2.size (.cells #[.bool a.1, .int .i64 a.2.1, .int .i64 a.2.2] 24)).size)).mono ?_
      rintro en w3 ⟨rfl, hb3⟩
      have hz3 := hb3.size
      (try simp at hz3)
      (have hc3a : ∀ o, w3.cell? ⟨w2.heap.size, o, none⟩ = _ := fun o => hb3.cell (p := ⟨w2.heap.size, o, none⟩) (by first | exact Nat.le_refl _ | omega | (simp; done) | (simp; omega)); (try simp at hc3a); have hl3a : w2.heap.size < w3.heap.size := (by omega); have hf3a : ∀ o, w3.frozen? ⟨w2.heap.size, o, none⟩ = _ := fun o => hb3.frozen (p := ⟨w2.heap.size, o, none⟩) (by first | exact Nat.le_refl _ | omega | (simp; done) | (simp; omega)); (try simp at hf3a))
      have hB3 := (hB2.alloc hB2.size (.cells #[.bool a.1, .int .i64 a.2.1, .int .i64 a.2.2] 24)).trans (hb3.mono (hB2.alloc hB2.size (.cells #[.bool a.1, .int .i64 a.2.1, .int .i64 a.2.2] 24)).size)
      go_wp2_with fail
      refine (lit_all zs cc 0 ((all_yes_ hall).1.trans hcc) (all_yes_ hall).2 (some ad) n c hn (by omega) _ ((hR.below (hB3.alloc hB3.size (.cells #[.bool b.1, .int .i64 b.2.1, .int .i64 b.2.2] 24))).more (hB3.alloc hB3.size (.cells #[.bool b.1, .int .i64 b.2.1, .int .i64 b.2.2] 24)).size)).mono ?_
      rintro en w4 ⟨rfl, hb4⟩
      have hz4 := hb4.size
      (try simp at hz4)
      (have hc4a : ∀ o, w4.cell? ⟨w2.heap.size, o, none⟩ = _ := fun o => hb4.cell (p := ⟨w2.heap.size, o, none⟩) (by first | exact Nat.le_refl _ | omega | (simp; done) | (simp; omega)); (try simp [World.cell?_alloc_past, World.frozen?_alloc_past, hc3a, hf3a, hl3a] at hc4a); have hl4a : w2.heap.size < w4.heap.size := (by omega); have hf4a : ∀ o, w4.frozen? ⟨w2.heap.size, o, none⟩ = _ := fun o => hb4.frozen (p := ⟨w2.heap.size, o, none⟩) (by first | exact Nat.le_refl _ | omega | (simp; done) | (simp; omega)); (try simp [World.cell?_alloc_past, World.frozen?_alloc_past, hc3a, hf3a, hl3a] at hf4a); have hc4b : ∀ o, w4.cell? ⟨w3.heap.size, o, none⟩ = _ := fun o => hb4.cell (p := ⟨w3.heap.size, o, none⟩) (by first | exact Nat.le_refl _ | omega | (simp; done) | (simp; omega)); (try simp [World.cell?_alloc_past, World.frozen?_alloc_past, hc3a, hf3a, hl3a] at hc4b); have hl4b : w3.heap.size < w4.heap.size := (by omega); have hf4b : ∀ o, w4.frozen? ⟨w3.heap.size, o, none⟩ = _ := fun o => hb4.frozen (p := ⟨w3.heap.size, o, none⟩) (by first | exact Nat.le_refl _ | omega | (simp; done) | (simp; omega)); (try simp [World.cell?_alloc_past, World.frozen?_alloc_past, hc3a, hf3a, hl3a] at hf4b))
      clear hc3a hf3a hl3a
      have hB4 := (hB3.alloc hB3.size (.cells #[.bool b.1, .int .i64 b.2.1, .int .i64 b.2.2] 24)).trans (hb4.mono (hB3.alloc hB3.size (.cells #[.bool b.1, .int .i64 b.2.1, .int .i64 b.2.2] 24)).size)
      go_wp2_with fail
      refine (lit_join a b cc 0 hjp.1 hjp.2 _).mono ?_
      rintro en w5 ⟨rfl, hb5⟩
      have hz5 := hb5.size
      (try simp at hz5)
      (have hc5a : ∀ o, w5.cell? ⟨w2.heap.size, o, none⟩ = _ := fun o => hb5.cell (p := ⟨w2.heap.size, o, none⟩) (by first | exact Nat.le_refl _ | omega | (simp; done) | (simp; omega)); (try simp [World.cell?_alloc_past, World.frozen?_alloc_past, hc4a, hf4a, hl4a, hc4b, hf4b, hl4b] at hc5a); have hl5a : w2.heap.size < w5.heap.size := (by omega); have hf5a : ∀ o, w5.frozen? ⟨w2.heap.size, o, none⟩ = _ := fun o => hb5.frozen (p := ⟨w2.heap.size, o, none⟩) (by first | exact Nat.le_refl _ | omega | (simp; done) | (simp; omega)); (try simp [World.cell?_alloc_past, World.frozen?_alloc_past, hc4a, hf4a, hl4a, hc4b, hf4b, hl4b] at hf5a); have hc5b : ∀ o, w5.cell? ⟨w3.heap.size, o, none⟩ = _ := fun o => hb5.cell (p := ⟨w3.heap.size, o, none⟩) (by first | exact Nat.le_refl _ | omega | (simp; done) | (simp; omega)); (try simp [World.cell?_alloc_past, World.frozen?_alloc_past, hc4a, hf4a, hl4a, hc4b, hf4b, hl4b] at hc5b); have hl5b : w3.heap.size < w5.heap.size := (by omega); have hf5b : ∀ o, w5.frozen? ⟨w3.heap.size, o, none⟩ = _ := fun o => hb5.frozen (p := ⟨w3.heap.size, o, none⟩) (by first | exact Nat.le_refl _ | omega | (simp; done) | (simp; omega)); (try simp [World.cell?_alloc_past, World.frozen?_alloc_past, hc4a, hf4a, hl4a, hc4b, hf4b, hl4b] at hf5b); have hc5c : ∀ o, w5.cell? ⟨w4.heap.size, o, none⟩ = _ := fun o => hb5.cell (p := ⟨w4.heap.size, o, none⟩) (by first | exact Nat.le_refl _ | omega | (simp; done) | (simp; omega)); (try simp [World.cell?_alloc_past, World.frozen?_alloc_past, hc4a, hf4a, hl4a, hc4b, hf4b, hl4b] at hc5c); have hl5c : w4.heap.size < w5.heap.size := (by omega); have hf5c : ∀ o, w5.frozen? ⟨w4.heap.size, o, none⟩ = _ := fun o => hb5.frozen (p := ⟨w4.heap.size, o, none⟩) (by first | exact Nat.le_refl _ | omega | (simp; done) | (simp; omega)); (try simp [World.cell?_alloc_past, World.frozen?_alloc_past, hc4a, hf4a, hl4a, hc4b, hf4b, hl4b] at hf5c))
      clear hc4a hf4a hl4a hc4b hf4b hl4b
      have hB5 := ((hB4.alloc hB4.size (.cells #[.bool cc.1, .int .i64 cc.2.1, .int .i64 cc.2.2] 24)).trans (hb5.mono (hB4.alloc hB4.size (.cells #[.bool cc.1, .int .i64 cc.2.1, .int .i64 cc.2.2] 24)).size)).alloc (by have := hB4.size; omega) (.cells #[.bool cc.1, .int .i64 cc.2.1, .int .i64 cc.2.2] 24)
      have hc5 : ∀ o, (w5.alloc (.cells #[.bool cc.1, .int .i64 cc.2.1, .int .i64 cc.2.2] 24)).cell? ⟨w4.heap.size, o, none⟩ = _ := fun o => (World.cell?_alloc_past (.cells #[.bool cc.1, .int .i64 cc.2.1, .int .i64 cc.2.2] 24) w4.heap.size o hl5c).trans (hc5c o)
      have hlc : w4.heap.size < (w5.alloc (.cells #[.bool cc.1, .int .i64 cc.2.1, .int .i64 cc.2.2] 24)).heap.size := by simp; omega
      clear hRt hRd hb2 hb3 hb4 hb5 hB2 hB3 hB4 hjp ha hb h1 h2
      have hHas : (cc.1 = false ∧ n = 0) ∨ (cc.1 = true ∧ 0 < n) := by
        rcases fld_has zs with ⟨hz, e⟩ | ⟨hz, e⟩
        · left; rw [hcc] at e; exact ⟨by rw [e], by rw [← hn, hz]; rfl⟩
        · right; rw [hcc] at e; exact ⟨e, by rcases Nat.eq_zero_or_pos n with h0 | h0; exact absurd (List.eq_nil_of_length_eq_zero (hn.trans h0)) hz; exact h0⟩
      obtain ⟨hh, lo, hi⟩ := cc
      dsimp only at hHas hc5 hB5
      rcases hHas with ⟨rfl, rfl⟩ | ⟨rfl, h0⟩
      · go_wp2
        go_loopw [16, 17, 18] (fun b1 b2 i wr => ∃ j : Nat, j ≤ 0 ∧ i = .int .i64 j ∧ b1 = .bool (dB (zs.take j) x) ∧ b2 = .bool (dA (zs.take j) x) ∧ Below (w5.alloc (.cells #[.bool false, .int .i64 lo, .int .i64 hi] 24)).heap.size (w5.alloc (.cells #[.bool false, .int .i64 lo, .int .i64 hi] 24)) wr) (fun _ _ i _ => 0 - (intOf i).toNat)
        case atStart => exact ⟨0, by omega, rfl, by simp [dB], by simp [dA], Below.refl _ _⟩
        case round =>
          obtain ⟨j, hj, rfl, rfl, rfl, hbr⟩ := hrel
          have q0 : wr.cell? ⟨w4.heap.size, 0, none⟩ = some (.bool false) := (hbr.cell (p := ⟨w4.heap.size, 0, none⟩) hlc).trans (hc5 0)
          have q1 : wr.cell? ⟨w4.heap.size, 1, none⟩ = some (.int .i64 lo) := (hbr.cell (p := ⟨w4.heap.size, 1, none⟩) hlc).trans (hc5 1)
          have q2 : wr.cell? ⟨w4.heap.size, 2, none⟩ = some (.int .i64 hi) := (hbr.cell (p := ⟨w4.heap.size, 2, none⟩) hlc).trans (hc5 2)
          have hBW := hB5.trans (hbr.mono hB5.size)
          have hlr := Nat.lt_of_lt_of_le hlc hbr.size
          obtain rfl : j = 0 := by omega
          have hB : dB (zs.take 0) x = dB zs x := by rw [List.take_of_length_le (by omega)]
          have hA : dA (zs.take 0) x = dA zs x := by rw [List.take_of_length_le (by omega)]
          rw [hB, hA]
          clear hB hA
          obtain ⟨B, hB⟩ : ∃ B, dB zs x = B := ⟨_, rfl⟩
          obtain ⟨A, hA⟩ : ∃ A, dA zs x = A := ⟨_, rfl⟩
          rw [hB, hA]
          by_cases hx : ValOK x
          · obtain ⟨e1, e2⟩ := in_val hall hx
            rw [hcc] at e1 e2
            rw [hB, hA] at e1
            clear hB hA
            cases B <;> cases A
            all_goals
              clear hx
              go_wp2_with fail
              refine (lit_in (false, lo, hi) x _ 0 e1 e2 _).mono ?_
              rintro en w6 ⟨rfl, hb6⟩
              have hB6 := hBW.trans (hb6.mono hBW.size)
              clear hb6 e1 e2
              go_wp2
              go_ret
              exact ⟨rfl, hB6⟩
          · obtain ⟨e1, e2⟩ := in_arg_ hall hx
            rw [hcc] at e1 e2
            clear hB hA
            cases B <;> cases A
            all_goals
              clear hx
              go_wp2_with fail
              refine (lit_in (false, lo, hi) x false 2 e1 e2 _).mono ?_
              rintro en w6 ⟨rfl, hb6⟩
              have hB6 := hBW.trans (hb6.mono hBW.size)
              clear hb6 e1 e2
              go_wp2
              go_ret
              exact ⟨rfl, hB6⟩
      · have h0x : (0 : Int) < n := by omega
        go_wp2
        go_loopw [16, 17, 18] (fun b1 b2 i wr => ∃ j : Nat, j ≤ n ∧ i = .int .i64 j ∧ b1 = .bool (dB (zs.take j) x) ∧ b2 = .bool (dA (zs.take j) x) ∧ Below (w5.alloc (.cells #[.bool true, .int .i64 lo, .int .i64 hi] 24)).heap.size (w5.alloc (.cells #[.bool true, .int .i64 lo, .int .i64 hi] 24)) wr) (fun _ _ i _ => n - (intOf i).toNat)
        case atStart => exact ⟨0, by omega, rfl, by simp [dB], by simp [dA], Below.refl _ _⟩
        case round =>
          obtain ⟨j, hj, rfl, rfl, rfl, hbr⟩ := hrel
          have q0 : wr.cell? ⟨w4.heap.size, 0, none⟩ = some (.bool true) := (hbr.cell (p := ⟨w4.heap.size, 0, none⟩) hlc).trans (hc5 0)
          have q1 : wr.cell? ⟨w4.heap.size, 1, none⟩ = some (.int .i64 lo) := (hbr.cell (p := ⟨w4.heap.size, 1, none⟩) hlc).trans (hc5 1)
          have q2 : wr.cell? ⟨w4.heap.size, 2, none⟩ = some (.int .i64 hi) := (hbr.cell (p := ⟨w4.heap.size, 2, none⟩) hlc).trans (hc5 2)
          have hBW := hB5.trans (hbr.mono hB5.size)
          have hlr := Nat.lt_of_lt_of_le hlc hbr.size
          by_cases hlt : j < n
          · obtain ⟨ad', u, hAd, hab, hu, cA⟩ := (hR.below hBW).at_ (k := j) hlt
            injection hAd with hAd
            subst hAd
            obtain ⟨y, hy⟩ : ∃ y, y = zs[j]'(by omega) := ⟨_, rfl⟩
            have hu' : u = .int .i64 y := by
              rw [List.getElem?_map, List.getElem?_eq_getElem (by omega)] at hu
              simp only [Option.map_some, Option.some.injEq] at hu
              rw [← hu, hy]
            subst hu'
            have hmem : y ∈ zs := by rw [hy]; exact List.getElem_mem _
            obtain ⟨e1, e2⟩ := in_mem hall hmem
            rw [hcc] at e1 e2
            have hbS := dB_snoc (zs.take j) y x
            have haS := dA_snoc (zs.take j) y x
            rw [show zs.take j ++ [y] = zs.take (j + 1) by rw [hy]; exact (List.take_succ_eq_append_getElem (by omega)).symm] at hbS haS
            have HbS := Lib.hid hbS
            have HaS := Lib.hid haS
            have SS : ∀ w', Below wr.heap.size wr w' → w'.cell? ⟨w4.heap.size, 0, none⟩ = some (.bool true) ∧ w'.cell? ⟨w4.heap.size, 1, none⟩ = some (.int .i64 lo) ∧ w'.cell? ⟨w4.heap.size, 2, none⟩ = some (.int .i64 hi) ∧ w'.cell? (ad.add j) = some (.int .i64 y) := fun w' hb => ⟨(hb.cell (p := ⟨w4.heap.size, 0, none⟩) hlr).trans q0, (hb.cell (p := ⟨w4.heap.size, 1, none⟩) hlr).trans q1, (hb.cell (p := ⟨w4.heap.size, 2, none⟩) hlr).trans q2, (hb.cell (p := ad.add j) (by rw [block_of_add]; have := hBW.size; omega)).trans cA⟩
            have j1 : (0 : Int) ≤ j := by omega
            have j2 : (j : Int) < n := by omega
            clear hu hy hmem hbS haS
            generalize dB (zs.take j) x = B at *
            generalize dA (zs.take j) x = A at *
            cases B <;> cases A
            all_goals
              go_wp2_with fail
              go_region_held3 (fun w' => w'.cell? ⟨w4.heap.size, 0, none⟩ = some (.bool true) ∧ w'.cell? ⟨w4.heap.size, 1, none⟩ = some (.int .i64 lo) ∧ w'.cell? ⟨w4.heap.size, 2, none⟩ = some (.int .i64 hi) ∧ w'.cell? (ad.add j) = some (.int .i64 y)) (first | exact SS _ (Below.drew (Below.refl _ _)) | exact SS _ ((Below.drew (Below.refl _ _)).trans (by assumption))) (first | (go_at_call 12; refine (lit_in (true, lo, hi) y true 0 e1 e2 _).mono ?_; rintro en w6 ⟨rfl, hb6⟩; have cy6 := (SS _ ((Below.drew (Below.refl _ _)).trans hb6)).2.2.2))
              go_wp2
              all_goals
                go_roundw
                case rel => exact ⟨j + 1, by omega, by go_num, by rw [HbS.out]; simp; try omega, by rw [HaS.out]; simp; try omega, (hbr.drew).trans (Below.mono hb6 (by exact hbr.size))⟩
                case measure => simp [intOf]; omega
          · have hB : dB (zs.take j) x = dB zs x := by rw [List.take_of_length_le (by omega)]
            have hA : dA (zs.take j) x = dA zs x := by rw [List.take_of_length_le (by omega)]
            obtain rfl : j = n := by omega
            rw [hB, hA]
            clear hB hA
            obtain ⟨B, hB⟩ : ∃ B, dB zs x = B := ⟨_, rfl⟩
            obtain ⟨A, hA⟩ : ∃ A, dA zs x = A := ⟨_, rfl⟩
            rw [hB, hA]
            by_cases hx : ValOK x
            · obtain ⟨e1, e2⟩ := in_val hall hx
              rw [hcc] at e1 e2
              rw [hB, hA] at e1
              clear hB hA
              cases B <;> cases A
              all_goals
                clear hx
                go_wp2_with fail
                refine (lit_in (true, lo, hi) x _ 0 e1 e2 _).mono ?_
                rintro en w6 ⟨rfl, hb6⟩
                have hB6 := hBW.trans (hb6.mono hBW.size)
                clear hb6 e1 e2
                go_wp2
                go_ret
                exact ⟨rfl, hB6⟩
            · obtain ⟨e1, e2⟩ := in_arg_ hall hx
              rw [hcc] at e1 e2
              clear hB hA
              cases B <;> cases A
              all_goals
                clear hx
                go_wp2_with fail
                refine (lit_in (true, lo, hi) x false 2 e1 e2 _).mono ?_
                rintro en w6 ⟨rfl, hb6⟩
                have hB6 := hBW.trans (hb6.mono hBW.size)
                clear hb6 e1 e2
                go_wp2
                go_ret
                exact ⟨rfl, hB6⟩
    · have hno : ¬ AllOK zs := fun h => h2 (ok_drop h k)
      refine (lit_all (zs.drop k) (false, 0, 0) 2 (all_no_ h2).1 (all_no_ h2).2 _ _ _ hld (by omega) _ ((hRd.below (hB2.alloc hB2.size (.cells #[.bool a.1, .int .i64 a.2.1, .int .i64 a.2.2] 24))).more (hB2.alloc hB2.size (.cells #[.bool a.1, .int .i64 a.2.1, .int .i64 a.2.2] 24)).size)).mono ?_
      rintro en w3 ⟨rfl, hb3⟩
      have hz3 := hb3.size
      (try simp at hz3)
      (have hc3a : ∀ o, w3.cell? ⟨w2.heap.size, o, none⟩ = _ := fun o => hb3.cell (p := ⟨w2.heap.size, o, none⟩) (by first | exact Nat.le_refl _ | omega | (simp; done) | (simp; omega)); (try simp at hc3a); have hl3a : w2.heap.size < w3.heap.size := (by omega); have hf3a : ∀ o, w3.frozen? ⟨w2.heap.size, o, none⟩ = _ := fun o => hb3.frozen (p := ⟨w2.heap.size, o, none⟩) (by first | exact Nat.le_refl _ | omega | (simp; done) | (simp; omega)); (try simp at hf3a))
      have hB3 := (hB2.alloc hB2.size (.cells #[.bool a.1, .int .i64 a.2.1, .int .i64 a.2.2] 24)).trans (hb3.mono (hB2.alloc hB2.size (.cells #[.bool a.1, .int .i64 a.2.1, .int .i64 a.2.2] 24)).size)
      go_wp2_with fail
      refine (lit_all zs (false, 0, 0) 2 (all_no_ hno).1 (all_no_ hno).2 (some ad) n c hn (by omega) _ ((hR.below (hB3.alloc hB3.size (.cells #[.bool false, .int .i64 0, .int .i64 0] 24))).more (hB3.alloc hB3.size (.cells #[.bool false, .int .i64 0, .int .i64 0] 24)).size)).mono ?_
      rintro en w4 ⟨rfl, hb4⟩
      have hz4 := hb4.size
      (try simp at hz4)
      (have hc4a : ∀ o, w4.cell? ⟨w2.heap.size, o, none⟩ = _ := fun o => hb4.cell (p := ⟨w2.heap.size, o, none⟩) (by first | exact Nat.le_refl _ | omega | (simp; done) | (simp; omega)); (try simp [World.cell?_alloc_past, World.frozen?_alloc_past, hc3a, hf3a, hl3a] at hc4a); have hl4a : w2.heap.size < w4.heap.size := (by omega); have hf4a : ∀ o, w4.frozen? ⟨w2.heap.size, o, none⟩ = _ := fun o => hb4.frozen (p := ⟨w2.heap.size, o, none⟩) (by first | exact Nat.le_refl _ | omega | (simp; done) | (simp; omega)); (try simp [World.cell?_alloc_past, World.frozen?_alloc_past, hc3a, hf3a, hl3a] at hf4a); have hc4b : ∀ o, w4.cell? ⟨w3.heap.size, o, none⟩ = _ := fun o => hb4.cell (p := ⟨w3.heap.size, o, none⟩) (by first | exact Nat.le_refl _ | omega | (simp; done) | (simp; omega)); (try simp [World.cell?_alloc_past, World.frozen?_alloc_past, hc3a, hf3a, hl3a] at hc4b); have hl4b : w3.heap.size < w4.heap.size := (by omega); have hf4b : ∀ o, w4.frozen? ⟨w3.heap.size, o, none⟩ = _ := fun o => hb4.frozen (p := ⟨w3.heap.size, o, none⟩) (by first | exact Nat.le_refl _ | omega | (simp; done) | (simp; omega)); (try simp [World.cell?_alloc_past, World.frozen?_alloc_past, hc3a, hf3a, hl3a] at hf4b))
      clear hc3a hf3a hl3a
      have hB4 := (hB3.alloc hB3.size (.cells #[.bool false, .int .i64 0, .int .i64 0] 24)).trans (hb4.mono (hB3.alloc hB3.size (.cells #[.bool false, .int .i64 0, .int .i64 0] 24)).size)
      clear hRt hRd hR hb2 hb3 hb4 hno
      go_wp2
      go_ret
      exact ⟨rfl, hB4.alloc hB4.size _⟩
  · have hno : ¬ AllOK zs := fun h => h1 (ok_take h k)
    obtain ⟨b, hb⟩ : ∃ b, allS (zs.drop k) = b := ⟨_, rfl⟩
    obtain ⟨f, hf⟩ : ∃ f, allE (zs.drop k) = f := ⟨_, rfl⟩
    refine (lit_all (zs.take k) (false, 0, 0) 2 (all_no_ h1).1 (all_no_ h1).2 _ _ _ hlt (by omega) _ ((hRt.below hb1).more hb1.size)).mono ?_
    rintro en w2 ⟨rfl, hb2⟩
    have hz2 := hb2.size
    (try simp at hz2)
    have hB2 := hb1.trans (hb2.mono hb1.size)
    go_wp2_with fail
    refine (lit_all (zs.drop k) b f hb hf _ _ _ hld (by omega) _ ((hRd.below (hB2.alloc hB2.size (.cells #[.bool false, .int .i64 0, .int .i64 0] 24))).more (hB2.alloc hB2.size (.cells #[.bool false, .int .i64 0, .int .i64 0] 24)).size)).mono ?_
    rintro en w3 ⟨rfl, hb3⟩
    have hz3 := hb3.size
    (try simp at hz3)
    (have hc3a : ∀ o, w3.cell? ⟨w2.heap.size, o, none⟩ = _ := fun o => hb3.cell (p := ⟨w2.heap.size, o, none⟩) (by first | exact Nat.le_refl _ | omega | (simp; done) | (simp; omega)); (try simp at hc3a); have hl3a : w2.heap.size < w3.heap.size := (by omega); have hf3a : ∀ o, w3.frozen? ⟨w2.heap.size, o, none⟩ = _ := fun o => hb3.frozen (p := ⟨w2.heap.size, o, none⟩) (by first | exact Nat.le_refl _ | omega | (simp; done) | (simp; omega)); (try simp at hf3a))
    have hB3 := (hB2.alloc hB2.size (.cells #[.bool false, .int .i64 0, .int .i64 0] 24)).trans (hb3.mono (hB2.alloc hB2.size (.cells #[.bool false, .int .i64 0, .int .i64 0] 24)).size)
    go_wp2_with fail
    refine (lit_all zs (false, 0, 0) 2 (all_no_ hno).1 (all_no_ hno).2 (some ad) n c hn (by omega) _ ((hR.below (hB3.alloc hB3.size (.cells #[.bool b.1, .int .i64 b.2.1, .int .i64 b.2.2] 24))).more (hB3.alloc hB3.size (.cells #[.bool b.1, .int .i64 b.2.1, .int .i64 b.2.2] 24)).size)).mono ?_
    rintro en w4 ⟨rfl, hb4⟩
    have hz4 := hb4.size
    (try simp at hz4)
    (have hc4a : ∀ o, w4.cell? ⟨w2.heap.size, o, none⟩ = _ := fun o => hb4.cell (p := ⟨w2.heap.size, o, none⟩) (by first | exact Nat.le_refl _ | omega | (simp; done) | (simp; omega)); (try simp [World.cell?_alloc_past, World.frozen?_alloc_past, hc3a, hf3a, hl3a] at hc4a); have hl4a : w2.heap.size < w4.heap.size := (by omega); have hf4a : ∀ o, w4.frozen? ⟨w2.heap.size, o, none⟩ = _ := fun o => hb4.frozen (p := ⟨w2.heap.size, o, none⟩) (by first | exact Nat.le_refl _ | omega | (simp; done) | (simp; omega)); (try simp [World.cell?_alloc_past, World.frozen?_alloc_past, hc3a, hf3a, hl3a] at hf4a); have hc4b : ∀ o, w4.cell? ⟨w3.heap.size, o, none⟩ = _ := fun o => hb4.cell (p := ⟨w3.heap.size, o, none⟩) (by first | exact Nat.le_refl _ | omega | (simp; done) | (simp; omega)); (try simp [World.cell?_alloc_past, World.frozen?_alloc_past, hc3a, hf3a, hl3a] at hc4b); have hl4b : w3.heap.size < w4.heap.size := (by omega); have hf4b : ∀ o, w4.frozen? ⟨w3.heap.size, o, none⟩ = _ := fun o => hb4.frozen (p := ⟨w3.heap.size, o, none⟩) (by first | exact Nat.le_refl _ | omega | (simp; done) | (simp; omega)); (try simp [World.cell?_alloc_past, World.frozen?_alloc_past, hc3a, hf3a, hl3a] at hf4b))
    clear hc3a hf3a hl3a
    have hB4 := (hB3.alloc hB3.size (.cells #[.bool b.1, .int .i64 b.2.1, .int .i64 b.2.2] 24)).trans (hb4.mono (hB3.alloc hB3.size (.cells #[.bool b.1, .int .i64 b.2.1, .int .i64 b.2.2] 24)).size)
    clear hRt hRd hR hb2 hb3 hb4 hno
    go_wp2
    go_ret
    exact ⟨rfl, hB4.alloc hB4.size _⟩
end Go.Proofs.Ytdibchmhigcaaaa.EdgeHolds
