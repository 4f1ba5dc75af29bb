/- Field: the walk of the law FieldTight. -/
import Derived.Test.YtekeenldlkkljaaTakesP
import Derived.Test.YtekeenldlkkljaaV
namespace Go.Proofs.Ytekeenldlkkljaa.FieldTight
open Go.ChangeShapes Go.WideShapes Go.ChangeAt Go.RowKit
set_option linter.unusedSimpArgs false
set_option linter.unusedVariables false
theorem reads_take {w : World} {B n k : Nat} {A : Option Addr} {l : List Int} (hn : l.length = n) (h : Reads w B 1 A n (u8s l)) (hk : k ≤ n) : Reads w B 1 A k (u8s (l.take k)) := by
  refine ⟨by simp; omega, fun h0 => ?_⟩
  obtain ⟨ad, e, hb, hc⟩ := h.2 (by omega)
  refine ⟨ad, e, hb, fun j u hu => hc j u ?_⟩
  rw [List.getElem?_map, List.getElem?_take] at hu
  split at hu
  · rw [List.getElem?_map]; exact hu
  · simp at hu
theorem nE_zero {l : List Int} {p s : Int} (h : nE l p s = 0) : 0 ≤ p ∧ 1 ≤ s ∧ s ≤ 8 ∧ p + s ≤ l.length := by
  unfold nE at h
  split at h
  · cases h
  · rename_i h1
    split at h
    · cases h
    · rename_i h2
      split at h
      · cases h
      · unfold rdrE at h1
        split at h1
        · omega
        · simp at h1
theorem bcell {W w1 : World} (hb : Below W.heap.size W w1) : (∀ b o, b < W.heap.size → w1.cell? ⟨b, o, none⟩ = W.cell? ⟨b, o, none⟩) ∧ (∀ b o, b < W.heap.size → w1.frozen? ⟨b, o, none⟩ = W.frozen? ⟨b, o, none⟩) :=
  ⟨fun b o h => hb.cell (p := ⟨b, o, none⟩) h, fun b o h => hb.frozen (p := ⟨b, o, none⟩) h⟩
def Mid (W1 : World) (b0 : Nat) (wx : World) : Prop := Below b0 W1 wx
set_option maxRecDepth 100000 in
set_option maxHeartbeats 8000000 in
theorem walk (A : Option Addr) (n c : Nat) (l : List Int) (hn : l.length = n) (hb : ∀ b ∈ l, 0 ≤ b ∧ b < 256) (hnc : n ≤ c) (p s : Int) (w : World) (hR : Reads w w.heap.size 1 A n (u8s l)) :
    Calls Try.prog 5 #[rst A n c p, .int .i64 s] w fun e w' => e = .returned (.bool true) ∧ Below w.heap.size w w' := by
  have bw := (Below.refl w.heap.size w).alloc (Nat.le_refl _) (.cells #[.slice A n c, .int .i64 p] 39)
  have kx := Blk.new w 39 #[.slice A n c, .int .i64 p]
  obtain ⟨W1, hW1⟩ : ∃ W1, W1 = w.alloc (.cells #[.slice A n c, .int .i64 p] 39) := ⟨_, rfl⟩
  rw [← hW1] at bw kx
  have rr := (hR.below bw).more bw.size
  go_enter Try.func5, Try.ntmps5
  go_wp2_with fail
  rw [← hW1]
  have hW1' := Lib.hid hW1
  clear hW1 hR
  refine (alive_any _).mono ?_
  rintro en w2 ⟨rfl, hb2⟩
  replace kx := kx.below hb2 kx.lt
  replace rr := (rr.below hb2).more hb2.size
  replace bw := bw.trans (hb2.mono bw.size)
  clear hb2
  have kxl := kx.lt
  have kxc0 := kx.cell 0
  have kxc1 := kx.cell 1
  by_cases hbig : 3900 < n
  · have t1 : decide ((3900 : Int) < (n : Int)) = true := decide_eq_true (by omega)
    clear hn hb rr hbig
    go_wp2
    go_ret
    exact ⟨rfl, bw⟩
  have t1 : decide ((3900 : Int) < (n : Int)) = false := decide_eq_false (by omega)
  have hn5 : n ≤ 3900 := by omega
  have gn := Lib.hid hn
  have gb := Lib.hid hb
  clear hbig
  obtain ⟨⟨L1, P1, X1⟩, hS1⟩ : ∃ R, nS l p s = R := ⟨_, rfl⟩
  obtain ⟨E1, hE1⟩ : ∃ E, nE l p s = E := ⟨_, rfl⟩
  obtain ⟨n1, hn1⟩ : ∃ n, L1.length = n := ⟨_, rfl⟩
  have hnum : ∀ w', Reads w' w'.heap.size 1 A n (u8s l) → Calls Try.prog 15 #[rst A n c p, .int .i64 s] w' (fun en w'' => ∃ A c, en = .returned (.tuple #[rst A n1 c P1, .int .u64 X1, .int .i64 E1]) ∧ Reads w'' w''.heap.size 1 A n1 (u8s L1) ∧ Below w'.heap.size w' w'') := by
    intro w' h
    refine (num_v A n c l hn hb (by omega) hnc p s w' h).mono ?_
    intro en w'' hh
    rw [hS1, hE1] at hh
    obtain ⟨A, c, e, h1, h2⟩ := hh
    simp only [hn1] at e h1
    exact ⟨A, c, e, h1, h2⟩
  obtain ⟨⟨L2, P2, N2, M2, X2⟩, hS2⟩ : ∃ R, dS l p = R := ⟨_, rfl⟩
  obtain ⟨E2, hE2⟩ : ∃ E, dyE l p = E := ⟨_, rfl⟩
  obtain ⟨n2, hn2⟩ : ∃ n, L2.length = n := ⟨_, rfl⟩
  obtain ⟨m2, hm2⟩ : ∃ n, M2.length = n := ⟨_, rfl⟩
  have hdy : ∀ w', Reads w' w'.heap.size 1 A n (u8s l) → Calls Try.prog 17 #[rst A n c p] w' (fun en w'' => ∃ A c Al cl, en = .returned (.tuple #[rst A n2 c P2, dy N2 Al m2 cl X2, .int .i64 E2]) ∧ Reads w'' w''.heap.size 1 A n2 (u8s L2) ∧ w''.ownsRow w'.heap.size 50 1 (.slice Al m2 cl) m2 (u32s M2) ∧ Below w'.heap.size w' w'') := by
    intro w' h
    refine (dyad_v A n c l hn hb (by omega) hnc p w' h).mono ?_
    intro en w'' hh
    rw [hS2, hE2] at hh
    obtain ⟨A, c, Al, cl, e, h1, h2, h3⟩ := hh
    simp only [hn2, hm2] at e h1 h2
    exact ⟨A, c, Al, cl, e, h1, h2, h3⟩
  have gS1 := Lib.hid hS1
  have gE1 := Lib.hid hE1
  have gn1 := Lib.hid hn1
  have gS2 := Lib.hid hS2
  have gE2 := Lib.hid hE2
  have gn2 := Lib.hid hn2
  have gm2 := Lib.hid hm2
  clear hS1 hE1 hn1 hS2 hE2 hn2 hm2 hn hb
  clear kxl kxc0 kxc1
  have kxl := kx.lt
  have kxc0 := kx.cell 0
  have kxe0 := World.new_ne w2 ⟨w.heap.size, 0, none⟩ kxc0
  have kxc1 := kx.cell 1
  have kxe1 := World.new_ne w2 ⟨w.heap.size, 1, none⟩ kxc1
  go_wp2_with fail
  refine (hdy _ rr).mono ?_
  rintro en w4 ⟨A4, c4, Al, cl, rfl, rp, oa, hb4⟩
  clear hdy
  clear kxl kxc0 kxe0 kxc1 kxe1
  replace kx := kx.below hb4 kx.lt
  replace rr := (rr.below hb4).more hb4.size
  replace bw := bw.trans (hb4.mono bw.size)
  clear hb4
  have ra := Reads.of_own oa
  clear oa
  have kxl := kx.lt
  have kxc0 := kx.cell 0
  have kxe0 := World.new_ne w4 ⟨w.heap.size, 0, none⟩ kxc0
  have kxc1 := kx.cell 1
  have kxe1 := World.new_ne w4 ⟨w.heap.size, 1, none⟩ kxc1
  go_wp2_with fail
  clear kxl kxc0 kxe0 kxc1 kxe1
  obtain ⟨V4, hV4⟩ : ∃ W, W = ((w4.alloc (.cells #[.slice A4 n2 c4, .int .i64 P2] 39)).alloc (.cells #[.bool N2, .slice Al m2 cl, .int .i64 X2] 26)) := ⟨_, rfl⟩
  rw [← hV4]
  have bV4 : Below w4.heap.size w4 V4 := by rw [hV4]; exact (((Below.refl w4.heap.size w4).alloc (Nat.le_refl _) (.cells #[.slice A4 n2 c4, .int .i64 P2] 39)).alloc (by simp only [World.size_alloc]; omega) (.cells #[.bool N2, .slice Al m2 cl, .int .i64 X2] 26))
  have k6 : Blk V4 (w4.heap.size) 39 #[.slice A4 n2 c4, .int .i64 P2] := by rw [hV4]; have h := (Blk.new (w4) 39 #[.slice A4 n2 c4, .int .i64 P2]).alloc (.cells #[.bool N2, .slice Al m2 cl, .int .i64 X2] 26); (try simp only [World.size_alloc] at h); exact h
  have k7 : Blk V4 (w4.heap.size + 1) 26 #[.bool N2, .slice Al m2 cl, .int .i64 X2] := by rw [hV4]; have h := Blk.new ((w4.alloc (.cells #[.slice A4 n2 c4, .int .i64 P2] 39))) 26 #[.bool N2, .slice Al m2 cl, .int .i64 X2]; (try simp only [World.size_alloc] at h); exact h
  have hV4' := Lib.hid hV4
  clear hV4
  replace kx := kx.below bV4 kx.lt
  replace rr := (rr.below bV4).more bV4.size
  replace rp := (rp.below bV4).more bV4.size
  replace ra := (ra.below bV4).more bV4.size
  replace bw := bw.trans (bV4.mono bw.size)
  clear bV4
  refine (hnum _ rr).mono ?_
  rintro en w5 ⟨A5, c5, rfl, ry, hb5⟩
  clear hnum
  replace kx := kx.below hb5 kx.lt
  replace k6 := k6.below hb5 k6.lt
  replace k7 := k7.below hb5 k7.lt
  replace rr := (rr.below hb5).more hb5.size
  replace rp := (rp.below hb5).more hb5.size
  replace ra := (ra.below hb5).more hb5.size
  replace bw := bw.trans (hb5.mono bw.size)
  clear hb5
  have kxl := kx.lt
  have kxc0 := kx.cell 0
  have kxe0 := World.new_ne w5 ⟨w.heap.size, 0, none⟩ kxc0
  have kxc1 := kx.cell 1
  have kxe1 := World.new_ne w5 ⟨w.heap.size, 1, none⟩ kxc1
  go_upto_if 43 with (fail)
  clear kxl kxc0 kxe0 kxc1 kxe1
  obtain ⟨V5, hV5⟩ : ∃ W, W = (w5.alloc (.cells #[.slice A5 n1 c5, .int .i64 P1] 39)) := ⟨_, rfl⟩
  rw [← hV5]
  have bV5 : Below w5.heap.size w5 V5 := by rw [hV5]; exact ((Below.refl w5.heap.size w5).alloc (Nat.le_refl _) (.cells #[.slice A5 n1 c5, .int .i64 P1] 39))
  have k9 : Blk V5 (w5.heap.size) 39 #[.slice A5 n1 c5, .int .i64 P1] := by rw [hV5]; have h := Blk.new (w5) 39 #[.slice A5 n1 c5, .int .i64 P1]; (try simp only [World.size_alloc] at h); exact h
  have hV5' := Lib.hid hV5
  clear hV5
  replace kx := kx.below bV5 kx.lt
  replace k6 := k6.below bV5 k6.lt
  replace k7 := k7.below bV5 k7.lt
  replace rr := (rr.below bV5).more bV5.size
  replace rp := (rp.below bV5).more bV5.size
  replace ra := (ra.below bV5).more bV5.size
  replace ry := (ry.below bV5).more bV5.size
  replace bw := bw.trans (bV5.mono bw.size)
  clear bV5
  go_cut [] (fun wx => Mid V5 V5.heap.size wx)
  case first =>
    by_cases e0 : E2 = 0
    · subst e0
      have hE := gE2.out
      obtain ⟨q, rfl⟩ : ∃ q : Nat, p = q := ⟨p.toNat, by
        have : ¬ rdrE l.length p = 8 := by
          intro h8
          unfold dyE at hE
          rw [if_pos h8] at hE
          cases hE
        unfold rdrE at this
        split at this
        · omega
        · simp at this⟩
      have hz := dyE_zero hE
      have hS := gS2.out
      rw [show dS l (q : Int) = _ from if_pos hE] at hS
      simp only [Int.toNat_natCast, Prod.mk.injEq] at hS
      obtain ⟨rfl, hP2, hN2, hM2, hX2⟩ := hS
      obtain rfl : n = n2 := gn.out.symm.trans gn2.out
      obtain ⟨M, hM⟩ : ∃ M, vM l q = M := ⟨_, rfl⟩
      have hm2 : m2 = M := by rw [← gm2.out, ← hM2, limbs_len, hM]
      subst hm2
      obtain ⟨y, hy⟩ : ∃ y, q + 4 + 4 * m2 = y + 1 := ⟨q + 3 + 4 * m2, by omega⟩
      have hn := gn.out
      have z1 := hz.1
      rw [hM, hn] at z1
      have hti := tight gb.out hE
      rw [hM, hy, hN2, show limbsOf l q m2 = M2 by rw [← hM]; exact hM2, hX2] at hti
      have hsh := tight_short hE
      rw [hM, hy, Nat.add_sub_cancel] at hsh
      have hmy := hz.2.2
      rw [hN2, hM2, hX2] at hmy
      have hP : P2 = ((y + 1 : Nat) : Int) := by rw [← hP2, hM, ← hy]; push_cast; rfl
      have hM40 : m2 ≤ 40 := by have h := hmy; unfold mayD mayL at h; simp only [Bool.and_eq_true, decide_eq_true_eq] at h; have := gm2.out; omega
      have hlr : ∀ x ∈ M2, 0 ≤ x ∧ x < 4294967296 := by
        rw [← hM2]
        intro x hx
        unfold limbsOf at hx
        simp only [List.mem_map] at hx
        obtain ⟨j, _, rfl⟩ := hx
        have := part_range gb.out (q + 4 + 4 * j) 4
        exact ⟨this.1, by have h := this.2; unfold limbAt; simp at h; omega⟩
      have hqn : q ≤ n := by omega
      have lq : (l.take q).length = q := by rw [List.length_take]; omega
      have ly : (l.take (y + 1)).length = y + 1 := by rw [List.length_take]; omega
      have hpX : pdX (l.take q) N2 M2 X2 = l.take (y + 1) := by unfold pdX; rw [if_pos ⟨hmy, by rw [lq, gm2.out]; omega⟩, ← hti]
      have hpE : pdE (l.take q) N2 M2 X2 = 0 := by unfold pdE; rw [if_pos hmy, if_pos (by rw [lq, gm2.out]; omega)]
      have hpd : ∀ w', Below V5.heap.size V5 w' → Calls Try.prog 12 #[.slice A q c, dy N2 Al m2 cl X2] w' (fun en w'' => ∃ A c, en = .returned (.tuple #[.slice A (y + 1) c, .int .i64 0]) ∧ Reads w'' w''.heap.size 1 A (y + 1) (u8s (l.take (y + 1))) ∧ Below w'.heap.size w' w'') := by
        intro w' h
        refine (putd_u A q c (l.take q) lq (by omega) N2 Al m2 cl M2 gm2.out (fun x hx => (hlr x hx).1) (fun x hx => (hlr x hx).2) X2 w' (reads_take hn ((rr.below h).more h.size) hqn) ((ra.below h).more h.size)).mono ?_
        intro en w'' hh
        rw [hpX, hpE] at hh
        obtain ⟨A', c', e, ho, hb⟩ := hh
        simp only [ly] at e ho
        exact ⟨A', c', e, Reads.of_own ho, hb⟩
      have lyy : (l.take y).length = y := by rw [List.length_take]; omega
      have hds : ∀ w', Below V5.heap.size V5 w' → Calls Try.prog 17 #[rst A y c (q : Int)] w' (fun en w'' => ∃ A c Al cl, en = .returned (.tuple #[rst A 0 c 0, dy false Al 0 cl 0, .int .i64 40]) ∧ Below w'.heap.size w' w'') := by
        intro w' h
        refine (dyad_v A y c (l.take y) lyy (fun x hx => gb.out x (List.mem_of_mem_take hx)) (by omega) (by omega) (q : Int) w' (reads_take hn ((rr.below h).more h.size) (by omega))).mono ?_
        intro en w'' hh
        rw [hsh, show dS (l.take y) (q : Int) = ([], 0, false, [], 0) from if_neg (by rw [hsh]; decide)] at hh
        obtain ⟨A', c', Al', cl', e, _, _, hb⟩ := hh
        exact ⟨A', c', Al', cl', e, hb⟩
      have gP := Lib.hid hP
      have pp : IntKind.i64.wrap (P2 - 1) = (y : Int) := by rw [hP]; exact (IntWalk.i64_in _ (by push_cast; omega)).trans (by push_cast; omega)
      have p1 : (0 : Int) ≤ (q : Int) := by omega
      have p2 : (q : Int) ≤ (c : Int) := by omega
      have p3 : (0 : Int) ≤ (y : Int) := by omega
      have p4 : (y : Int) ≤ (c : Int) := by omega
      have p5 : (0 : Int) ≤ P2 := by omega
      have p6 : P2 ≤ (c : Int) := by rw [hP]; omega
      have p7 : P2.toNat = y + 1 := by rw [hP]; rfl
      have p8 : decide (P2 ≤ (q : Int)) = false := decide_eq_false (by rw [hP]; omega)
      have wb := gb.out
      have hyn : y + 1 ≤ n := by omega
      have hby : ∀ b ∈ l.take (y + 1), 0 ≤ b ∧ b < 256 := fun x hx => gb.out x (List.mem_of_mem_take hx)
      clear hE hz hP2 hN2 hM2 hX2 hM hy hn z1 hti hsh hmy hP hlr hqn lq hpX hpE lyy gE1 gS1 gn1
      have gly := Lib.hid ly
      clear ly
      have SS : ∀ w', Below V5.heap.size V5 w' → w'.cell? ⟨w.heap.size, 0, none⟩ = some (.slice A n c) ∧ w'.cell? ⟨w.heap.size, 1, none⟩ = some (.int .i64 (q : Int)) ∧ w'.cell? ⟨w4.heap.size, 0, none⟩ = some (.slice A4 n c4) ∧ w'.cell? ⟨w4.heap.size, 1, none⟩ = some (.int .i64 P2) ∧ w'.cell? ⟨w4.heap.size + 1, 0, none⟩ = some (.bool N2) ∧ w'.cell? ⟨w4.heap.size + 1, 1, none⟩ = some (.slice Al m2 cl) ∧ w'.cell? ⟨w4.heap.size + 1, 2, none⟩ = some (.int .i64 X2) := fun w' h => ⟨(kx.below h kx.lt).cell 0, (kx.below h kx.lt).cell 1, (k6.below h k6.lt).cell 0, (k6.below h k6.lt).cell 1, (k7.below h k7.lt).cell 0, (k7.below h k7.lt).cell 1, (k7.below h k7.lt).cell 2⟩
      have hc3 : ∀ w', Below V5.heap.size V5 w' → Calls Try.prog 19 #[rst A4 n c4 (q : Int), rst A n c (q : Int)] w' (fun en w'' => en = .returned (.bool true) ∧ Below w'.heap.size w' w'') := fun w' h => rsame_yes A4 A n c4 c (q : Int) l gn.out wb w' ((rp.below h).more h.size) ((rr.below h).more h.size)
      have ry1 := fun w' (h : Below V5.heap.size V5 w') => reads_take (k := y + 1) gn.out (rr.below h) hyn
      clear kx k6 k7 k9 rr ra rp ry bw wb
      have hBc : Below V5.heap.size V5 V5.drew := Below.drew (Below.refl _ _)
      go_wp2_with fail
      go_region_held3 (fun w' => w'.cell? ⟨w.heap.size, 0, none⟩ = some (.slice A n c) ∧ w'.cell? ⟨w.heap.size, 1, none⟩ = some (.int .i64 (q : Int)) ∧ w'.cell? ⟨w4.heap.size, 0, none⟩ = some (.slice A4 n c4) ∧ w'.cell? ⟨w4.heap.size, 1, none⟩ = some (.int .i64 P2) ∧ w'.cell? ⟨w4.heap.size + 1, 0, none⟩ = some (.bool N2) ∧ w'.cell? ⟨w4.heap.size + 1, 1, none⟩ = some (.slice Al m2 cl) ∧ w'.cell? ⟨w4.heap.size + 1, 2, none⟩ = some (.int .i64 X2)) (exact SS _ hBc) (first | (go_at_call 12; (with_reducible refine (hpd _ hBc).mono ?_); rintro en w6 ⟨A6, c6, rfl, rb, hb6⟩; replace hBc := hBc.trans (hb6.mono hBc.size)))
      clear hpd hb6
      go_upto_region 8 with (fail)
      go_cut [16] (fun s16 wx => s16 = .int .i64 40 ∧ Below w6.heap.size w6 wx)
      case first =>
        have hBo := hBc
        have hBd : Below w6.heap.size w6 w6.drew := Below.drew (Below.refl _ _)
        have SS6 : ∀ w', Below w6.heap.size w6 w' → w'.cell? ⟨w.heap.size, 0, none⟩ = some (.slice A n c) ∧ w'.cell? ⟨w.heap.size, 1, none⟩ = some (.int .i64 (q : Int)) ∧ w'.cell? ⟨w4.heap.size, 0, none⟩ = some (.slice A4 n c4) ∧ w'.cell? ⟨w4.heap.size, 1, none⟩ = some (.int .i64 P2) ∧ w'.cell? ⟨w4.heap.size + 1, 0, none⟩ = some (.bool N2) ∧ w'.cell? ⟨w4.heap.size + 1, 1, none⟩ = some (.slice Al m2 cl) ∧ w'.cell? ⟨w4.heap.size + 1, 2, none⟩ = some (.int .i64 X2) := fun w' h => SS w' (hBo.trans (h.mono hBo.size))
        have hd6 : ∀ w', Below w6.heap.size w6 w' → Calls Try.prog 17 #[rst A y c (q : Int)] w' (fun en w'' => ∃ A c Al cl, en = .returned (.tuple #[rst A 0 c 0, dy false Al 0 cl 0, .int .i64 40]) ∧ Below w6.heap.size w6 w'' ∧ Below w'.heap.size w' w'') := fun w' h => (hds w' (hBo.trans (h.mono hBo.size))).mono fun _ _ ⟨A, c, Al, cl, e, b⟩ => ⟨A, c, Al, cl, e, h.trans (b.mono h.size), b⟩
        clear SS hds hc3 ry1 rb hBc hBo
        go_region_held3 (fun w' => w'.cell? ⟨w.heap.size, 0, none⟩ = some (.slice A n c) ∧ w'.cell? ⟨w.heap.size, 1, none⟩ = some (.int .i64 (q : Int)) ∧ w'.cell? ⟨w4.heap.size, 0, none⟩ = some (.slice A4 n c4) ∧ w'.cell? ⟨w4.heap.size, 1, none⟩ = some (.int .i64 P2) ∧ w'.cell? ⟨w4.heap.size + 1, 0, none⟩ = some (.bool N2) ∧ w'.cell? ⟨w4.heap.size + 1, 1, none⟩ = some (.slice Al m2 cl) ∧ w'.cell? ⟨w4.heap.size + 1, 2, none⟩ = some (.int .i64 X2)) ((refine SS6 _ ?_; (repeat first | with_reducible assumption | with_reducible exact Below.refl _ _ | with_reducible refine Below.drew ?_ | (with_reducible refine Below.setCell ?_ (by first | exact hBd.size | (have := hBd.size; simp only [World.size_alloc, World.size_setCell, World.size_drew]; omega) | (have := hBd.size; show _ ≤ _; omega)) _) | (with_reducible refine Below.alloc ?_ (by first | exact hBd.size | (have := hBd.size; simp only [World.size_alloc, World.size_setCell, World.size_drew]; omega) | (have := hBd.size; show _ ≤ _; omega)) _)))) (first | (go_at_call 17; (with_reducible refine (hd6 _ (by (repeat first | with_reducible assumption | with_reducible exact Below.refl _ _ | with_reducible refine Below.drew ?_ | (with_reducible refine Below.setCell ?_ (by first | exact hBd.size | (have := hBd.size; simp only [World.size_alloc, World.size_setCell, World.size_drew]; omega) | (have := hBd.size; show _ ≤ _; omega)) _) | (with_reducible refine Below.alloc ?_ (by first | exact hBd.size | (have := hBd.size; simp only [World.size_alloc, World.size_setCell, World.size_drew]; omega) | (have := hBd.size; show _ ≤ _; omega)) _)))).mono ?_); rintro en w7 ⟨A7, c7, Al7, cl7, rfl, hBd, hb7⟩; obtain ⟨hc7, hf7⟩ := bcell hb7; have hs7 := hb7.size; simp only [World.size_drew, World.size_alloc] at hs7; (try have hl7 : w6.heap.size < w7.heap.size := (by omega)); (try have hn7 : ¬ (w6.heap.size = w7.heap.size) := (by omega)); (try have hn8 : ¬ (w7.heap.size = w6.heap.size) := (by omega)); (try have hl9 : w6.heap.size + 1 < w7.heap.size := (by omega))))
        all_goals go_wp2_with fail
        all_goals go_meet
        all_goals exact ⟨rfl, by (repeat first | with_reducible assumption | with_reducible exact Below.refl _ _ | with_reducible refine Below.drew ?_ | (with_reducible refine Below.setCell ?_ (by first | exact hBd.size | (have := hBd.size; simp only [World.size_alloc, World.size_setCell, World.size_drew]; omega) | (have := hBd.size; show _ ≤ _; omega)) _) | (with_reducible refine Below.alloc ?_ (by first | exact hBd.size | (have := hBd.size; simp only [World.size_alloc, World.size_setCell, World.size_drew]; omega) | (have := hBd.size; show _ ≤ _; omega)) _))⟩
      case rest =>
        obtain ⟨rfl, hB9⟩ := hcut
        have hBo := hBc.trans (hB9.mono hBc.size)
        have rb9 := (rb.below hB9).more hB9.size
        clear hBc rb hds hB9
        have SS6 : ∀ w', Below wc.heap.size wc w' → w'.cell? ⟨w.heap.size, 0, none⟩ = some (.slice A n c) ∧ w'.cell? ⟨w.heap.size, 1, none⟩ = some (.int .i64 (q : Int)) ∧ w'.cell? ⟨w4.heap.size, 0, none⟩ = some (.slice A4 n c4) ∧ w'.cell? ⟨w4.heap.size, 1, none⟩ = some (.int .i64 P2) ∧ w'.cell? ⟨w4.heap.size + 1, 0, none⟩ = some (.bool N2) ∧ w'.cell? ⟨w4.heap.size + 1, 1, none⟩ = some (.slice Al m2 cl) ∧ w'.cell? ⟨w4.heap.size + 1, 2, none⟩ = some (.int .i64 X2) ∧ (convert 22 9 (.slice A6 (y + 1) c6)).run Try.prog w' = .ok (.string (strI (l.take (y + 1)))) w' ∧ (convert 22 9 (.slice A (y + 1) c)).run Try.prog w' = .ok (.string (strI (l.take (y + 1)))) w' := fun w' h => by
          obtain ⟨a1, a2, a3, a4, a5, a6, a7⟩ := SS w' (hBo.trans (h.mono hBo.size))
          exact ⟨a1, a2, a3, a4, a5, a6, a7, conv_str gly.out hby (rb9.below h), conv_str gly.out hby (ry1 w' (hBo.trans (h.mono hBo.size)))⟩
        have hc6 : ∀ w', Below wc.heap.size wc w' → Calls Try.prog 19 #[rst A4 n c4 (q : Int), rst A n c (q : Int)] w' (fun en w'' => en = .returned (.bool true) ∧ Below w'.heap.size w' w'') := fun w' h => hc3 w' (hBo.trans (h.mono hBo.size))
        have ts := str_same (l.take (y + 1))
        have ts2 : ((strI (l.take (y + 1))).toList != (strI (l.take (y + 1))).toList) = false := by simp
        clear SS hc3 ry1 rb9 hby
        have hBd : Below wc.heap.size wc wc.drew := Below.drew (Below.refl _ _)
        go_wp2_with fail
        go_region_held3 (fun w' => w'.cell? ⟨w.heap.size, 0, none⟩ = some (.slice A n c) ∧ w'.cell? ⟨w.heap.size, 1, none⟩ = some (.int .i64 (q : Int)) ∧ w'.cell? ⟨w4.heap.size, 0, none⟩ = some (.slice A4 n c4) ∧ w'.cell? ⟨w4.heap.size, 1, none⟩ = some (.int .i64 P2) ∧ w'.cell? ⟨w4.heap.size + 1, 0, none⟩ = some (.bool N2) ∧ w'.cell? ⟨w4.heap.size + 1, 1, none⟩ = some (.slice Al m2 cl) ∧ w'.cell? ⟨w4.heap.size + 1, 2, none⟩ = some (.int .i64 X2) ∧ (convert 22 9 (.slice A6 (y + 1) c6)).run Try.prog w' = .ok (.string (strI (l.take (y + 1)))) w' ∧ (convert 22 9 (.slice A (y + 1) c)).run Try.prog w' = .ok (.string (strI (l.take (y + 1)))) w') ((refine SS6 _ ?_; (repeat first | with_reducible assumption | with_reducible exact Below.refl _ _ | with_reducible refine Below.drew ?_ | (with_reducible refine Below.setCell ?_ (by first | exact hBd.size | (have := hBd.size; simp only [World.size_alloc, World.size_setCell, World.size_drew]; omega) | (have := hBd.size; show _ ≤ _; omega)) _) | (with_reducible refine Below.alloc ?_ (by first | exact hBd.size | (have := hBd.size; simp only [World.size_alloc, World.size_setCell, World.size_drew]; omega) | (have := hBd.size; show _ ≤ _; omega)) _)))) (first | (go_at_call 19; (with_reducible refine (hc6 _ (by (repeat first | with_reducible assumption | with_reducible exact Below.refl _ _ | with_reducible refine Below.drew ?_ | (with_reducible refine Below.setCell ?_ (by first | exact hBd.size | (have := hBd.size; simp only [World.size_alloc, World.size_setCell, World.size_drew]; omega) | (have := hBd.size; show _ ≤ _; omega)) _) | (with_reducible refine Below.alloc ?_ (by first | exact hBd.size | (have := hBd.size; simp only [World.size_alloc, World.size_setCell, World.size_drew]; omega) | (have := hBd.size; show _ ≤ _; omega)) _)))).mono ?_); rintro en w7 ⟨rfl, hb7⟩; replace hBd := hBd.trans (hb7.mono hBd.size)))
        go_wp2_with fail
        go_meet
        exact hBo.trans (hBd.mono hBo.size)
    · have te : (E2 == 0) = false := by simpa using e0
      clear kx k6 k7 k9 rr rp ra ry bw
      go_wp2_with fail
      go_meet
      exact Below.refl _ _
  case rest =>
    have hB5 : Below V5.heap.size V5 wc := hcut
    clear hcut
    replace kx := kx.below hB5 kx.lt
    replace k6 := k6.below hB5 k6.lt
    replace k7 := k7.below hB5 k7.lt
    replace k9 := k9.below hB5 k9.lt
    replace rr := (rr.below hB5).more hB5.size
    replace rp := (rp.below hB5).more hB5.size
    replace ra := (ra.below hB5).more hB5.size
    replace ry := (ry.below hB5).more hB5.size
    replace bw := bw.trans (hB5.mono bw.size)
    clear hB5
    have wb := gb.out
    by_cases e1 : E1 = 0
    · subst e1
      obtain ⟨hp0, hs1, hs8, hps⟩ := nE_zero gE1.out
      obtain ⟨q, rfl⟩ : ∃ q : Nat, p = q := ⟨p.toNat, by omega⟩
      obtain ⟨t, rfl⟩ : ∃ t : Nat, s = t := ⟨s.toNat, by omega⟩
      have hn := gn.out
      have hS := gS1.out
      rw [show nS l (q : Int) (t : Int) = _ from if_pos gE1.out] at hS
      simp only [Int.toNat_natCast, Prod.mk.injEq] at hS
      obtain ⟨rfl, hP1, hX1⟩ := hS
      have hqt : q + t ≤ n := by omega
      have hti := tight_num gb.out q t (by omega)
      rw [hX1] at hti
      have hxr := part_range gb.out q t
      rw [hX1] at hxr
      obtain ⟨x, rfl⟩ : ∃ x : Nat, X1 = x := ⟨X1.toNat, by omega⟩
      rw [Int.toNat_natCast] at hti
      have lq : (l.take q).length = q := by rw [List.length_take]; omega
      have hx : x < 256 ^ t := by have := hxr.2; exact_mod_cast this
      have hx64 : x < 18446744073709551616 := Nat.lt_of_lt_of_le hx (Nat.le_trans (Nat.pow_le_pow_right (by omega) (show t ≤ 8 by omega)) (by decide))
      have lt1 : (l.take (q + t)).length = q + t := by rw [List.length_take]; omega
      have hnX : pnX (l.take q) x (t : Int) = l.take (q + t) := by unfold pnX; rw [if_pos ⟨by omega, by omega, by rw [Int.toNat_natCast]; exact hx, by rw [lq, Int.toNat_natCast]; omega⟩, Int.toNat_natCast, ← hti]
      have hnE : pnE (l.take q) x (t : Int) = 0 := by unfold pnE; rw [if_pos ⟨by omega, by omega, by rw [Int.toNat_natCast]; exact hx⟩, if_pos (by rw [lq, Int.toNat_natCast]; omega)]
      have hpn := putn_u A q c (l.take q) lq (by omega) x hx64 (t : Int) wc (reads_take hn rr (by omega))
      rw [hnX, hnE] at hpn
      have hP : P1 = (q : Int) + t := hP1.symm
      have hrt := reads_take (k := q + t) hn rr hqt
      have hbt : ∀ b ∈ l.take (q + t), 0 ≤ b ∧ b < 256 := fun x hx => wb x (List.mem_of_mem_take hx)
      have p1 : (0 : Int) ≤ (q : Int) := by omega
      have p2 : (q : Int) ≤ (c : Int) := by omega
      have wq : IntKind.i64.wrap ((q : Int) + t) = (q : Int) + t := IntWalk.i64_in _ (by omega)
      have p5 : (0 : Int) ≤ (q : Int) + t := by omega
      have p6 : (q : Int) + t ≤ (c : Int) := by omega
      have p7 : ((q : Int) + t).toNat = q + t := by omega
      subst hP
      have glt := Lib.hid lt1
      clear hX1 hti hxr lq hx lt1 hnX hnE hn gE1 gS2 gE2 gn1 gn2 gm2 hps hp0 hs1 hs8
      have kxl := kx.lt
      have kxc0 := kx.cell 0
      have kxe0 := World.new_ne wc ⟨w.heap.size, 0, none⟩ kxc0
      have kxc1 := kx.cell 1
      have kxe1 := World.new_ne wc ⟨w.heap.size, 1, none⟩ kxc1
      have k9l := k9.lt
      have k9c0 := k9.cell 0
      have k9e0 := World.new_ne wc ⟨w5.heap.size, 0, none⟩ k9c0
      have k9c1 := k9.cell 1
      have k9e1 := World.new_ne wc ⟨w5.heap.size, 1, none⟩ k9c1
      have bwc := bw
      clear bw rr rp ra ry k6 k7
      go_wp2_with fail
      refine hpn.mono ?_
      rintro en w6 ⟨A6, c6, rfl, ho6, hb6⟩
      clear hpn
      have kx6 := kx.below hb6 kxl
      have k96 := k9.below hb6 k9l
      have hrt6 := hrt.below hb6
      have bw6 := bwc.trans (hb6.mono bwc.size)
      clear kx k9 kxl kxc0 kxe0 kxc1 kxe1 k9l k9c0 k9e0 k9c1 k9e1 hrt hb6 bwc
      rw [glt.out] at ho6
      rw [glt.out]
      have kv1' : (convert 22 9 (.slice A6 (q + t) c6)).run Try.prog w6.drew = .ok (.string (strI (l.take (q + t)))) w6.drew := by have h := conv_str (w := w6.drew) (c := c6) glt.out hbt (by exact (Reads.of_own ho6).drew); exact h
      have kv2' : (convert 22 9 (.slice A (q + t) c)).run Try.prog w6.drew = .ok (.string (strI (l.take (q + t)))) w6.drew := conv_str (w := w6.drew) glt.out hbt hrt6.drew
      have ts := str_same (l.take (q + t))
      have x0 := kx6.cell 0
      have x1 := kx6.cell 1
      have y0 := k96.cell 0
      have y1 := k96.cell 1
      have tq : ((q : Int) + t == (q : Int) + t) = true := by simp
      clear ho6 hrt6 hbt kx6 k96 wb
      go_wp2_with fail
      go_region_held3 (fun w' => w'.cell? ⟨w.heap.size, 0, none⟩ = some (.slice A n c) ∧ w'.cell? ⟨w.heap.size, 1, none⟩ = some (.int .i64 (q : Int)) ∧ w'.cell? ⟨w5.heap.size, 1, none⟩ = some (.int .i64 ((q : Int) + t)) ∧ (convert 22 9 (.slice A6 (q + t) c6)).run Try.prog w' = .ok (.string (strI (l.take (q + t)))) w' ∧ (convert 22 9 (.slice A (q + t) c)).run Try.prog w' = .ok (.string (strI (l.take (q + t)))) w') (exact ⟨x0, x1, y1, kv1', kv2'⟩) (fail)
      go_wp2
      go_ret
      exact ⟨rfl, Below.drew bw6⟩
    · have te : (E1 == 0) = false := by simpa using e1
      have hS := gS1.out
      rw [show nS l p s = ([], 0, 0) from if_neg (by rw [gE1.out]; exact e1)] at hS
      simp only [Prod.mk.injEq] at hS
      obtain ⟨rfl, rfl, rfl⟩ := hS
      have k9l := k9.lt
      have k9c0 := k9.cell 0
      have k9e0 := World.new_ne wc ⟨w5.heap.size, 0, none⟩ k9c0
      have k9c1 := k9.cell 1
      have k9e1 := World.new_ne wc ⟨w5.heap.size, 1, none⟩ k9c1
      clear rr rp ra ry wb kx k6 k7 k9
      go_wp2
      go_ret
      exact ⟨rfl, bw⟩
end Go.Proofs.Ytekeenldlkkljaa.FieldTight
