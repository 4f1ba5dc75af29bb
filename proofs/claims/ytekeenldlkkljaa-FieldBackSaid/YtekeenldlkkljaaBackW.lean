/- Field: the walk of the law FieldBack. -/
import Derived.Test.YtekeenldlkkljaaW
import Derived.Lib.Hide
namespace Go.Proofs.Ytekeenldlkkljaa.FieldBack
open Go.ChangeShapes Go.WideShapes Go.ChangeAt Go.RowKit
set_option linter.unusedSimpArgs false
set_option linter.unusedVariables false
theorem dyad_m (A : Option Addr) (n c : Nat) (L pre suf l : List Int) (neg : Bool) (e p q m : Nat) (hn : L.length = n) (hb : ∀ b ∈ L, 0 ≤ b ∧ b < 256) (hm : n ≤ 100000) (hnc : n ≤ c) (hL : L = pre ++ (flat (ptsD neg l (e : Int)) ++ suf)) (hp : pre.length = p) (hl : l.length = m) (hq : q = p + (4 + 4 * m)) (h0 : ∀ x ∈ l, 0 ≤ x) (h1 : ∀ x ∈ l, x < 4294967296) (hd : mayD neg l (e : Int) = true) (he : e < 65536) (hml : m < 256) (w : World) (hR : Reads w w.heap.size 1 A n (u8s L)) :
    Calls Try.prog 17 #[rst A n c (p : Int)] w fun en w' => ∃ Al cl, en = .returned (.tuple #[rst A n c (q : Int), dy neg Al m cl (e : Int), .int .i64 0]) ∧ w'.ownsRow w.heap.size 50 1 (.slice Al m cl) m (u32s l) ∧ Below w.heap.size w w' := by
  subst hl
  subst hq
  exact dyad_back A n c L pre suf l neg e p hn hb hm hnc hL hp h0 h1 hd he hml w hR
theorem may_parts {neg : Bool} {l : List Int} {e : Int} (h : mayD neg l e = true) : l.length ≤ 40 ∧ 0 ≤ e ∧ e ≤ 1024 := by
  unfold mayD mayL at h
  simp only [Bool.and_eq_true, decide_eq_true_eq] at h
  omega
theorem pd_no {b : List Int} {neg : Bool} {l : List Int} {e : Int} (h : mayD neg l e = false) : pdX b neg l e = [] ∧ pdE b neg l e = 8 :=
  ⟨if_neg (fun hh => by rw [h] at hh; cases hh.1), if_neg (by rw [h]; decide)⟩
theorem pd_yes {b : List Int} {neg : Bool} {l : List Int} {e : Int} (h : mayD neg l e = true) (hb : b.length ≤ 3000) : pdX b neg l e = b ++ flat (ptsD neg l e) ∧ pdE b neg l e = 0 := by
  have := (may_parts h).1
  exact ⟨if_pos ⟨h, by omega⟩, by unfold pdE; rw [if_pos h, if_pos (by omega)]⟩
theorem pn_zero {b : List Int} {x : Nat} {s : Int} (h : pnE b x s = 0) : ∃ k : Nat, s = (k : Int) ∧ 1 ≤ k ∧ k ≤ 8 ∧ x < 256 ^ k ∧ pnX b x s = b ++ digs x k := by
  unfold pnE at h
  split at h
  · rename_i h1
    split at h
    · rename_i h2
      refine ⟨s.toNat, by omega, by omega, by omega, h1.2.2, ?_⟩
      unfold pnX
      rw [if_pos ⟨h1.1, h1.2.1, h1.2.2, h2⟩]
    · cases h
  · cases h
theorem own_cap {w : World} {base e size n m c : Nat} {A : Option Addr} {xs : List Value} (h : w.ownsRow base e size (.slice A n c) m xs) : m ≤ c := by
  obtain ⟨A', c', e1, hc, _⟩ := own_slice h
  injection e1 with _ _ e3
  omega
theorem num_m (A : Option Addr) (n c : Nat) (l : List Int) (hn : l.length = n) (hb : ∀ b ∈ l, 0 ≤ b ∧ b < 256) (hm : n ≤ 100000) (hnc : n ≤ c) (p s q : Nat) (N : Int) (hq : p + s = q) (hN : numI ((l.drop p).take s) = N) (h1 : 1 ≤ s) (h8 : s ≤ 8) (hps : p + s ≤ n) (w : World) (hR : Reads w w.heap.size 1 A n (u8s l)) :
    Calls Try.prog 15 #[rst A n c (p : Int), .int .i64 (s : Int)] w fun en w' => en = .returned (.tuple #[rst A n c (q : Int), .int .u64 N, .int .i64 0]) ∧ Below w.heap.size w w' := by
  subst hq
  subst hN
  exact num_ok A n c l hn hb hm hnc p s h1 h8 hps w hR
set_option maxHeartbeats 4000000 in
theorem great1 (x : Nat) (hx : x < 18446744073709551616) (s : Int) (n1 : Bool) (L1 : Option Addr) (m1 c1 : Nat) (l1 : List Int) (hl1 : l1.length = m1) (hz1 : ∀ y ∈ l1, 0 ≤ y) (hu1 : ∀ y ∈ l1, y < 4294967296) (e1 : Int) (n2 : Bool) (L2 : Option Addr) (m2 c2 : Nat) (l2 : List Int) (hl2 : l2.length = m2) (hz2 : ∀ y ∈ l2, 0 ≤ y) (hu2 : ∀ y ∈ l2, y < 4294967296) (e2 : Int) (hg1 : greatB m1 e1 = true) (w : World) (hR1 : Reads w w.heap.size 1 L1 m1 (u32s l1)) (hR2 : Reads w w.heap.size 1 L2 m2 (u32s l2)) :
    Calls Try.prog 7 #[.int .u64 x, .int .i64 s, dy n1 L1 m1 c1 e1, dy n2 L2 m2 c2 e2] w fun en w' => en = .returned (.bool true) ∧ Below w.heap.size w w' := by
  have hB0 := ((Below.refl w.heap.size w).alloc (Nat.le_refl _) (.cells #[.bool n1, .slice L1 m1 c1, .int .i64 e1] 26)).alloc (by rw [World.size_alloc]; omega) (.cells #[.bool n2, .slice L2 m2 c2, .int .i64 e2] 26)
  have ha0 := (Blk.new w 26 #[.bool n1, .slice L1 m1 c1, .int .i64 e1]).alloc (.cells #[.bool n2, .slice L2 m2 c2, .int .i64 e2] 26)
  have hb0 := Blk.new (w.alloc (.cells #[.bool n1, .slice L1 m1 c1, .int .i64 e1] 26)) 26 #[.bool n2, .slice L2 m2 c2, .int .i64 e2]
  rw [World.size_alloc] at hb0
  have gr1 := fun (w : World) => great_any n1 L1 m1 c1 e1 w
  have gr2 := fun (w : World) => great_any n2 L2 m2 c2 e2 w
  rw [hg1] at gr1
  clear hg1
  go_enter Try.func7, Try.ntmps7
  go_wp2_with fail
  refine (alive_any _).mono ?_
  rintro en w1 ⟨rfl, hs1⟩
  have hB1 := hB0.trans (hs1.mono hB0.size)
  have ha1 := ha0.below hs1 ha0.lt
  have hb1 := hb0.below hs1 hb0.lt
  clear ha0 hb0 hs1 hB0
  have p0 := ha1.cell 0
  have p1 := ha1.cell 1
  have p2 := ha1.cell 2
  have q0 := hb1.cell 0
  have q1 := hb1.cell 1
  have q2 := hb1.cell 2
  go_wp2_with fail
  refine (gr1 _).mono ?_
  rintro en w2 ⟨rfl, hs2⟩
  have hB2 := hB1.trans (hs2.mono hB1.size)
  have ha2 := ha1.below hs2 ha1.lt
  have hb2 := hb1.below hs2 hb1.lt
  clear ha1 hb1 hs2 hB1 p0 p1 p2 q0 q1 q2
  have p0 := ha2.cell 0
  have p1 := ha2.cell 1
  have p2 := ha2.cell 2
  have q0 := hb2.cell 0
  have q1 := hb2.cell 1
  have q2 := hb2.cell 2
  clear hR1 hR2 gr1 gr2 hl1 hl2
  go_wp2
  go_ret
  exact ⟨rfl, hB2⟩
set_option maxHeartbeats 4000000 in
theorem great2 (x : Nat) (hx : x < 18446744073709551616) (s : Int) (n1 : Bool) (L1 : Option Addr) (m1 c1 : Nat) (l1 : List Int) (hl1 : l1.length = m1) (hz1 : ∀ y ∈ l1, 0 ≤ y) (hu1 : ∀ y ∈ l1, y < 4294967296) (e1 : Int) (n2 : Bool) (L2 : Option Addr) (m2 c2 : Nat) (l2 : List Int) (hl2 : l2.length = m2) (hz2 : ∀ y ∈ l2, 0 ≤ y) (hu2 : ∀ y ∈ l2, y < 4294967296) (e2 : Int) (hg1 : greatB m1 e1 = false) (hg2 : greatB m2 e2 = true) (w : World) (hR1 : Reads w w.heap.size 1 L1 m1 (u32s l1)) (hR2 : Reads w w.heap.size 1 L2 m2 (u32s l2)) :
    Calls Try.prog 7 #[.int .u64 x, .int .i64 s, dy n1 L1 m1 c1 e1, dy n2 L2 m2 c2 e2] w fun en w' => en = .returned (.bool true) ∧ Below w.heap.size w w' := by
  have hB0 := ((Below.refl w.heap.size w).alloc (Nat.le_refl _) (.cells #[.bool n1, .slice L1 m1 c1, .int .i64 e1] 26)).alloc (by rw [World.size_alloc]; omega) (.cells #[.bool n2, .slice L2 m2 c2, .int .i64 e2] 26)
  have ha0 := (Blk.new w 26 #[.bool n1, .slice L1 m1 c1, .int .i64 e1]).alloc (.cells #[.bool n2, .slice L2 m2 c2, .int .i64 e2] 26)
  have hb0 := Blk.new (w.alloc (.cells #[.bool n1, .slice L1 m1 c1, .int .i64 e1] 26)) 26 #[.bool n2, .slice L2 m2 c2, .int .i64 e2]
  rw [World.size_alloc] at hb0
  have gr1 := fun (w : World) => great_any n1 L1 m1 c1 e1 w
  have gr2 := fun (w : World) => great_any n2 L2 m2 c2 e2 w
  rw [hg1] at gr1
  rw [hg2] at gr2
  clear hg1
  go_enter Try.func7, Try.ntmps7
  go_wp2_with fail
  refine (alive_any _).mono ?_
  rintro en w1 ⟨rfl, hs1⟩
  have hB1 := hB0.trans (hs1.mono hB0.size)
  have ha1 := ha0.below hs1 ha0.lt
  have hb1 := hb0.below hs1 hb0.lt
  clear ha0 hb0 hs1 hB0
  have p0 := ha1.cell 0
  have p1 := ha1.cell 1
  have p2 := ha1.cell 2
  have q0 := hb1.cell 0
  have q1 := hb1.cell 1
  have q2 := hb1.cell 2
  go_wp2_with fail
  refine (gr1 _).mono ?_
  rintro en w2 ⟨rfl, hs2⟩
  have hB2 := hB1.trans (hs2.mono hB1.size)
  have ha2 := ha1.below hs2 ha1.lt
  have hb2 := hb1.below hs2 hb1.lt
  clear ha1 hb1 hs2 hB1 p0 p1 p2 q0 q1 q2
  have p0 := ha2.cell 0
  have p1 := ha2.cell 1
  have p2 := ha2.cell 2
  have q0 := hb2.cell 0
  have q1 := hb2.cell 1
  have q2 := hb2.cell 2
  go_wp2_with fail
  refine (gr2 _).mono ?_
  rintro en w3 ⟨rfl, hs3⟩
  have hB3 := hB2.trans (hs3.mono hB2.size)
  have ha3 := ha2.below hs3 ha2.lt
  have hb3 := hb2.below hs3 hb2.lt
  clear ha2 hb2 hs3 hB2 p0 p1 p2 q0 q1 q2 gr1 gr2
  have p0 := ha3.cell 0
  have p1 := ha3.cell 1
  have p2 := ha3.cell 2
  have q0 := hb3.cell 0
  have q1 := hb3.cell 1
  have q2 := hb3.cell 2
  clear hR1 hR2 hl1 hl2
  go_wp2
  go_ret
  exact ⟨rfl, hB3⟩
set_option maxRecDepth 100000 in
set_option maxHeartbeats 16000000 in
theorem bad1 (x : Nat) (hx : x < 18446744073709551616) (s : Int) (n1 : Bool) (L1 : Option Addr) (m1 c1 : Nat) (l1 : List Int) (hl1 : l1.length = m1) (hz1 : ∀ y ∈ l1, 0 ≤ y) (hu1 : ∀ y ∈ l1, y < 4294967296) (e1 : Int) (n2 : Bool) (L2 : Option Addr) (m2 c2 : Nat) (l2 : List Int) (hl2 : l2.length = m2) (hz2 : ∀ y ∈ l2, 0 ≤ y) (hu2 : ∀ y ∈ l2, y < 4294967296) (e2 : Int) (hg1 : greatB m1 e1 = false) (hg2 : greatB m2 e2 = false) (hd : mayD n1 l1 e1 = false) (w : World) (hR1 : Reads w w.heap.size 1 L1 m1 (u32s l1)) (hR2 : Reads w w.heap.size 1 L2 m2 (u32s l2)) :
    Calls Try.prog 7 #[.int .u64 x, .int .i64 s, dy n1 L1 m1 c1 e1, dy n2 L2 m2 c2 e2] w fun en w' => en = .returned (.bool true) ∧ Below w.heap.size w w' := by
  have hB0 := ((Below.refl w.heap.size w).alloc (Nat.le_refl _) (.cells #[.bool n1, .slice L1 m1 c1, .int .i64 e1] 26)).alloc (by rw [World.size_alloc]; omega) (.cells #[.bool n2, .slice L2 m2 c2, .int .i64 e2] 26)
  have ha0 := (Blk.new w 26 #[.bool n1, .slice L1 m1 c1, .int .i64 e1]).alloc (.cells #[.bool n2, .slice L2 m2 c2, .int .i64 e2] 26)
  have hb0 := Blk.new (w.alloc (.cells #[.bool n1, .slice L1 m1 c1, .int .i64 e1] 26)) 26 #[.bool n2, .slice L2 m2 c2, .int .i64 e2]
  rw [World.size_alloc] at hb0
  have gr1 := fun (w : World) => great_any n1 L1 m1 c1 e1 w
  have gr2 := fun (w : World) => great_any n2 L2 m2 c2 e2 w
  rw [hg1] at gr1
  rw [hg2] at gr2
  clear hg2
  clear hg1
  go_enter Try.func7, Try.ntmps7
  go_wp2_with fail
  refine (alive_any _).mono ?_
  rintro en w1 ⟨rfl, hs1⟩
  have hB1 := hB0.trans (hs1.mono hB0.size)
  have ha1 := ha0.below hs1 ha0.lt
  have hb1 := hb0.below hs1 hb0.lt
  clear ha0 hb0 hs1 hB0
  have p0 := ha1.cell 0
  have p1 := ha1.cell 1
  have p2 := ha1.cell 2
  have q0 := hb1.cell 0
  have q1 := hb1.cell 1
  have q2 := hb1.cell 2
  go_wp2_with fail
  refine (gr1 _).mono ?_
  rintro en w2 ⟨rfl, hs2⟩
  have hB2 := hB1.trans (hs2.mono hB1.size)
  have ha2 := ha1.below hs2 ha1.lt
  have hb2 := hb1.below hs2 hb1.lt
  clear ha1 hb1 hs2 hB1 p0 p1 p2 q0 q1 q2
  have p0 := ha2.cell 0
  have p1 := ha2.cell 1
  have p2 := ha2.cell 2
  have q0 := hb2.cell 0
  have q1 := hb2.cell 1
  have q2 := hb2.cell 2
  go_wp2_with fail
  refine (gr2 _).mono ?_
  rintro en w3 ⟨rfl, hs3⟩
  have hB3 := hB2.trans (hs3.mono hB2.size)
  have ha3 := ha2.below hs3 ha2.lt
  have hb3 := hb2.below hs3 hb2.lt
  clear ha2 hb2 hs3 hB2 p0 p1 p2 q0 q1 q2 gr1 gr2
  have p0 := ha3.cell 0
  have p1 := ha3.cell 1
  have p2 := ha3.cell 2
  have q0 := hb3.cell 0
  have q1 := hb3.cell 1
  have q2 := hb3.cell 2
  have HL1 := Lib.hid hl1
  have HL2 := Lib.hid hl2
  have HZ1 := Lib.hid hz1
  have HZ2 := Lib.hid hz2
  have HU1 := Lib.hid hu1
  have HU2 := Lib.hid hu2
  clear hl1 hl2 hz1 hz2 hu1 hu2
  have g1 := fun (w : World) h => putd_u none 0 0 [] rfl (by omega) n1 L1 m1 c1 l1 HL1.out HZ1.out HU1.out e1 w Reads.none_ h
  have hE1v := (pd_no (b := []) hd).2
  have hlenk1 := pdX_len [] n1 l1 e1
  obtain ⟨X1, hXk1⟩ : ∃ X, pdX [] n1 l1 e1 = X := ⟨_, rfl⟩
  obtain ⟨k1, hk1⟩ : ∃ k, X1.length = k := ⟨_, rfl⟩
  simp only [hE1v] at g1
  obtain ⟨E1, hEk1⟩ : ∃ E : Int, E = 0 := ⟨0, rfl⟩
  clear hEk1
  simp only [hXk1] at g1
  rw [hXk1, hk1] at hlenk1
  replace hk1 := Lib.hid hk1
  replace hXk1 := Lib.hid hXk1
  go_wp2_with fail
  refine (g1 _ ((hR1.below hB3).more hB3.size)).mono ?_
  intro en w4 hh
  obtain ⟨A4, t4, rfl, ho4, hs4⟩ := hh.at_ k1 hk1.out
  clear hh
  have hB4 := hB3.trans (hs4.mono hB3.size)
  have ha4 := ha3.below hs4 ha3.lt
  have hb4 := hb3.below hs4 hb3.lt
  clear ha3 hb3 p0 p1 p2 q0 q1 q2
  have p0 := ha4.cell 0
  have p1 := ha4.cell 1
  have p2 := ha4.cell 2
  have q0 := hb4.cell 0
  have q1 := hb4.cell 1
  have q2 := hb4.cell 2
  clear g1
  have g2 := fun (w : World) h => putn_u A4 k1 t4 X1 hk1.out (by omega) x hx s w h
  have hlenk2 := pnX_len X1 x s
  obtain ⟨X2, hXk2⟩ : ∃ X, pnX X1 x s = X := ⟨_, rfl⟩
  obtain ⟨k2, hk2⟩ : ∃ k, X2.length = k := ⟨_, rfl⟩
  obtain ⟨E2, hEk2⟩ : ∃ E, pnE X1 x s = E := ⟨_, rfl⟩
  simp only [hEk2] at g2
  simp only [hXk2] at g2
  rw [hXk2, hk2] at hlenk2
  replace hk2 := Lib.hid hk2
  replace hXk2 := Lib.hid hXk2
  replace hEk2 := Lib.hid hEk2
  go_wp2_with fail
  refine (g2 _ (Reads.of_own ho4)).mono ?_
  intro en w5 hh
  obtain ⟨A5, t5, rfl, ho5, hs5⟩ := hh.at_ k2 hk2.out
  clear hh
  have hB5 := hB4.trans (hs5.mono hB4.size)
  have ha5 := ha4.below hs5 ha4.lt
  have hb5 := hb4.below hs5 hb4.lt
  clear ha4 hb4 p0 p1 p2 q0 q1 q2
  have p0 := ha5.cell 0
  have p1 := ha5.cell 1
  have p2 := ha5.cell 2
  have q0 := hb5.cell 0
  have q1 := hb5.cell 1
  have q2 := hb5.cell 2
  clear g2 ho4
  have g3 := fun (w : World) h h2 => putd_u A5 k2 t5 X2 hk2.out (by omega) n2 L2 m2 c2 l2 HL2.out HZ2.out HU2.out e2 w h h2
  have hlenk3 := pdX_len X2 n2 l2 e2
  obtain ⟨X3, hXk3⟩ : ∃ X, pdX X2 n2 l2 e2 = X := ⟨_, rfl⟩
  obtain ⟨k3, hk3⟩ : ∃ k, X3.length = k := ⟨_, rfl⟩
  obtain ⟨E3, hEk3⟩ : ∃ E, pdE X2 n2 l2 e2 = E := ⟨_, rfl⟩
  simp only [hEk3] at g3
  simp only [hXk3] at g3
  rw [hXk3, hk3] at hlenk3
  replace hk3 := Lib.hid hk3
  replace hXk3 := Lib.hid hXk3
  replace hEk3 := Lib.hid hEk3
  go_wp2_with fail
  refine (g3 _ (Reads.of_own ho5) ((hR2.below hB5).more hB5.size)).mono ?_
  intro en w6 hh
  obtain ⟨A6, t6, rfl, ho6, hs6⟩ := hh.at_ k3 hk3.out
  clear hh
  have hB6 := hB5.trans (hs6.mono hB5.size)
  have ha6 := ha5.below hs6 ha5.lt
  have hb6 := hb5.below hs6 hb5.lt
  clear ha5 hb5 p0 p1 p2 q0 q1 q2
  have p0 := ha6.cell 0
  have p1 := ha6.cell 1
  have p2 := ha6.cell 2
  have q0 := hb6.cell 0
  have q1 := hb6.cell 1
  have q2 := hb6.cell 2
  clear g3 ho5
  clear hE1v ho6
  have gc1 := fun (w : World) h => dcheck_any n1 L1 m1 c1 l1 HL1.out HZ1.out e1 w h
  simp only [hd] at gc1
  go_wp2_with fail
  refine (gc1 _ ((hR1.below hB6).more hB6.size)).mono ?_
  rintro en w7 ⟨rfl, hs7⟩
  have hB7 := hB6.trans (hs7.mono hB6.size)
  have ha7 := ha6.below hs7 ha6.lt
  have hb7 := hb6.below hs7 hb6.lt
  clear ha6 hb6 p0 p1 p2 q0 q1 q2 gc1 hs7
  have p0 := ha7.cell 0
  have p1 := ha7.cell 1
  have p2 := ha7.cell 2
  have q0 := hb7.cell 0
  have q1 := hb7.cell 1
  have q2 := hb7.cell 2
  clear hd
  clear hR1 hR2 hs4 hs5 hs6 ha7 hb7
  go_wp2
  go_ret
  exact ⟨rfl, hB7⟩
set_option maxRecDepth 100000 in
set_option maxHeartbeats 16000000 in
theorem bad2 (x : Nat) (hx : x < 18446744073709551616) (s : Int) (n1 : Bool) (L1 : Option Addr) (m1 c1 : Nat) (l1 : List Int) (hl1 : l1.length = m1) (hz1 : ∀ y ∈ l1, 0 ≤ y) (hu1 : ∀ y ∈ l1, y < 4294967296) (e1 : Int) (n2 : Bool) (L2 : Option Addr) (m2 c2 : Nat) (l2 : List Int) (hl2 : l2.length = m2) (hz2 : ∀ y ∈ l2, 0 ≤ y) (hu2 : ∀ y ∈ l2, y < 4294967296) (e2 : Int) (hg1 : greatB m1 e1 = false) (hg2 : greatB m2 e2 = false) (hd : mayD n1 l1 e1 = true) (hn : ∀ X1 : List Int, X1 = pdX [] n1 l1 e1 → (pnE X1 x s != 0) = true) (w : World) (hR1 : Reads w w.heap.size 1 L1 m1 (u32s l1)) (hR2 : Reads w w.heap.size 1 L2 m2 (u32s l2)) :
    Calls Try.prog 7 #[.int .u64 x, .int .i64 s, dy n1 L1 m1 c1 e1, dy n2 L2 m2 c2 e2] w fun en w' => en = .returned (.bool true) ∧ Below w.heap.size w w' := by
  have hB0 := ((Below.refl w.heap.size w).alloc (Nat.le_refl _) (.cells #[.bool n1, .slice L1 m1 c1, .int .i64 e1] 26)).alloc (by rw [World.size_alloc]; omega) (.cells #[.bool n2, .slice L2 m2 c2, .int .i64 e2] 26)
  have ha0 := (Blk.new w 26 #[.bool n1, .slice L1 m1 c1, .int .i64 e1]).alloc (.cells #[.bool n2, .slice L2 m2 c2, .int .i64 e2] 26)
  have hb0 := Blk.new (w.alloc (.cells #[.bool n1, .slice L1 m1 c1, .int .i64 e1] 26)) 26 #[.bool n2, .slice L2 m2 c2, .int .i64 e2]
  rw [World.size_alloc] at hb0
  have gr1 := fun (w : World) => great_any n1 L1 m1 c1 e1 w
  have gr2 := fun (w : World) => great_any n2 L2 m2 c2 e2 w
  rw [hg1] at gr1
  rw [hg2] at gr2
  clear hg2
  clear hg1
  go_enter Try.func7, Try.ntmps7
  go_wp2_with fail
  refine (alive_any _).mono ?_
  rintro en w1 ⟨rfl, hs1⟩
  have hB1 := hB0.trans (hs1.mono hB0.size)
  have ha1 := ha0.below hs1 ha0.lt
  have hb1 := hb0.below hs1 hb0.lt
  clear ha0 hb0 hs1 hB0
  have p0 := ha1.cell 0
  have p1 := ha1.cell 1
  have p2 := ha1.cell 2
  have q0 := hb1.cell 0
  have q1 := hb1.cell 1
  have q2 := hb1.cell 2
  go_wp2_with fail
  refine (gr1 _).mono ?_
  rintro en w2 ⟨rfl, hs2⟩
  have hB2 := hB1.trans (hs2.mono hB1.size)
  have ha2 := ha1.below hs2 ha1.lt
  have hb2 := hb1.below hs2 hb1.lt
  clear ha1 hb1 hs2 hB1 p0 p1 p2 q0 q1 q2
  have p0 := ha2.cell 0
  have p1 := ha2.cell 1
  have p2 := ha2.cell 2
  have q0 := hb2.cell 0
  have q1 := hb2.cell 1
  have q2 := hb2.cell 2
  go_wp2_with fail
  refine (gr2 _).mono ?_
  rintro en w3 ⟨rfl, hs3⟩
  have hB3 := hB2.trans (hs3.mono hB2.size)
  have ha3 := ha2.below hs3 ha2.lt
  have hb3 := hb2.below hs3 hb2.lt
  clear ha2 hb2 hs3 hB2 p0 p1 p2 q0 q1 q2 gr1 gr2
  have p0 := ha3.cell 0
  have p1 := ha3.cell 1
  have p2 := ha3.cell 2
  have q0 := hb3.cell 0
  have q1 := hb3.cell 1
  have q2 := hb3.cell 2
  have HL1 := Lib.hid hl1
  have HL2 := Lib.hid hl2
  have HZ1 := Lib.hid hz1
  have HZ2 := Lib.hid hz2
  have HU1 := Lib.hid hu1
  have HU2 := Lib.hid hu2
  clear hl1 hl2 hz1 hz2 hu1 hu2
  have g1 := fun (w : World) h => putd_u none 0 0 [] rfl (by omega) n1 L1 m1 c1 l1 HL1.out HZ1.out HU1.out e1 w Reads.none_ h
  have hE1v := (pd_yes (b := []) hd (by simp)).2
  have hlenk1 := pdX_len [] n1 l1 e1
  obtain ⟨X1, hXk1⟩ : ∃ X, pdX [] n1 l1 e1 = X := ⟨_, rfl⟩
  obtain ⟨k1, hk1⟩ : ∃ k, X1.length = k := ⟨_, rfl⟩
  simp only [hE1v] at g1
  obtain ⟨E1, hEk1⟩ : ∃ E : Int, E = 0 := ⟨0, rfl⟩
  clear hEk1
  simp only [hXk1] at g1
  rw [hXk1, hk1] at hlenk1
  replace hk1 := Lib.hid hk1
  replace hXk1 := Lib.hid hXk1
  go_wp2_with fail
  refine (g1 _ ((hR1.below hB3).more hB3.size)).mono ?_
  intro en w4 hh
  obtain ⟨A4, t4, rfl, ho4, hs4⟩ := hh.at_ k1 hk1.out
  clear hh
  have hB4 := hB3.trans (hs4.mono hB3.size)
  have ha4 := ha3.below hs4 ha3.lt
  have hb4 := hb3.below hs4 hb3.lt
  clear ha3 hb3 p0 p1 p2 q0 q1 q2
  have p0 := ha4.cell 0
  have p1 := ha4.cell 1
  have p2 := ha4.cell 2
  have q0 := hb4.cell 0
  have q1 := hb4.cell 1
  have q2 := hb4.cell 2
  clear g1
  have g2 := fun (w : World) h => putn_u A4 k1 t4 X1 hk1.out (by omega) x hx s w h
  have hlenk2 := pnX_len X1 x s
  obtain ⟨X2, hXk2⟩ : ∃ X, pnX X1 x s = X := ⟨_, rfl⟩
  obtain ⟨k2, hk2⟩ : ∃ k, X2.length = k := ⟨_, rfl⟩
  obtain ⟨E2, hEk2⟩ : ∃ E, pnE X1 x s = E := ⟨_, rfl⟩
  simp only [hEk2] at g2
  simp only [hXk2] at g2
  rw [hXk2, hk2] at hlenk2
  replace hk2 := Lib.hid hk2
  replace hXk2 := Lib.hid hXk2
  replace hEk2 := Lib.hid hEk2
  have hne := hn X1 hXk1.out.symm
  rw [hEk2.out] at hne
  clear hn
  go_wp2_with fail
  refine (g2 _ (Reads.of_own ho4)).mono ?_
  intro en w5 hh
  obtain ⟨A5, t5, rfl, ho5, hs5⟩ := hh.at_ k2 hk2.out
  clear hh
  have hB5 := hB4.trans (hs5.mono hB4.size)
  have ha5 := ha4.below hs5 ha4.lt
  have hb5 := hb4.below hs5 hb4.lt
  clear ha4 hb4 p0 p1 p2 q0 q1 q2
  have p0 := ha5.cell 0
  have p1 := ha5.cell 1
  have p2 := ha5.cell 2
  have q0 := hb5.cell 0
  have q1 := hb5.cell 1
  have q2 := hb5.cell 2
  clear g2 ho4
  have g3 := fun (w : World) h h2 => putd_u A5 k2 t5 X2 hk2.out (by omega) n2 L2 m2 c2 l2 HL2.out HZ2.out HU2.out e2 w h h2
  have hlenk3 := pdX_len X2 n2 l2 e2
  obtain ⟨X3, hXk3⟩ : ∃ X, pdX X2 n2 l2 e2 = X := ⟨_, rfl⟩
  obtain ⟨k3, hk3⟩ : ∃ k, X3.length = k := ⟨_, rfl⟩
  obtain ⟨E3, hEk3⟩ : ∃ E, pdE X2 n2 l2 e2 = E := ⟨_, rfl⟩
  simp only [hEk3] at g3
  simp only [hXk3] at g3
  rw [hXk3, hk3] at hlenk3
  replace hk3 := Lib.hid hk3
  replace hXk3 := Lib.hid hXk3
  replace hEk3 := Lib.hid hEk3
  go_wp2_with fail
  refine (g3 _ (Reads.of_own ho5) ((hR2.below hB5).more hB5.size)).mono ?_
  intro en w6 hh
  obtain ⟨A6, t6, rfl, ho6, hs6⟩ := hh.at_ k3 hk3.out
  clear hh
  have hB6 := hB5.trans (hs6.mono hB5.size)
  have ha6 := ha5.below hs6 ha5.lt
  have hb6 := hb5.below hs6 hb5.lt
  clear ha5 hb5 p0 p1 p2 q0 q1 q2
  have p0 := ha6.cell 0
  have p1 := ha6.cell 1
  have p2 := ha6.cell 2
  have q0 := hb6.cell 0
  have q1 := hb6.cell 1
  have q2 := hb6.cell 2
  clear g3 ho5
  clear hE1v ho6
  have gc1 := fun (w : World) h => dcheck_any n1 L1 m1 c1 l1 HL1.out HZ1.out e1 w h
  simp only [hd] at gc1
  go_wp2_with fail
  refine (gc1 _ ((hR1.below hB6).more hB6.size)).mono ?_
  rintro en w7 ⟨rfl, hs7⟩
  have hB7 := hB6.trans (hs7.mono hB6.size)
  have ha7 := ha6.below hs7 ha6.lt
  have hb7 := hb6.below hs7 hb6.lt
  clear ha6 hb6 p0 p1 p2 q0 q1 q2 gc1 hs7
  have p0 := ha7.cell 0
  have p1 := ha7.cell 1
  have p2 := ha7.cell 2
  have q0 := hb7.cell 0
  have q1 := hb7.cell 1
  have q2 := hb7.cell 2
  clear hd
  clear hR1 hR2 hs4 hs5 hs6 ha7 hb7
  go_wp2
  go_ret
  exact ⟨rfl, hB7⟩
set_option maxRecDepth 100000 in
set_option maxHeartbeats 16000000 in
theorem bad3 (x : Nat) (hx : x < 18446744073709551616) (s : Int) (n1 : Bool) (L1 : Option Addr) (m1 c1 : Nat) (l1 : List Int) (hl1 : l1.length = m1) (hz1 : ∀ y ∈ l1, 0 ≤ y) (hu1 : ∀ y ∈ l1, y < 4294967296) (e1 : Int) (n2 : Bool) (L2 : Option Addr) (m2 c2 : Nat) (l2 : List Int) (hl2 : l2.length = m2) (hz2 : ∀ y ∈ l2, 0 ≤ y) (hu2 : ∀ y ∈ l2, y < 4294967296) (e2 : Int) (hg1 : greatB m1 e1 = false) (hg2 : greatB m2 e2 = false) (hd : mayD n1 l1 e1 = true) (hn : ∀ X1 : List Int, X1 = pdX [] n1 l1 e1 → pnE X1 x s = 0) (hd2 : mayD n2 l2 e2 = false) (w : World) (hR1 : Reads w w.heap.size 1 L1 m1 (u32s l1)) (hR2 : Reads w w.heap.size 1 L2 m2 (u32s l2)) :
    Calls Try.prog 7 #[.int .u64 x, .int .i64 s, dy n1 L1 m1 c1 e1, dy n2 L2 m2 c2 e2] w fun en w' => en = .returned (.bool true) ∧ Below w.heap.size w w' := by
  have hB0 := ((Below.refl w.heap.size w).alloc (Nat.le_refl _) (.cells #[.bool n1, .slice L1 m1 c1, .int .i64 e1] 26)).alloc (by rw [World.size_alloc]; omega) (.cells #[.bool n2, .slice L2 m2 c2, .int .i64 e2] 26)
  have ha0 := (Blk.new w 26 #[.bool n1, .slice L1 m1 c1, .int .i64 e1]).alloc (.cells #[.bool n2, .slice L2 m2 c2, .int .i64 e2] 26)
  have hb0 := Blk.new (w.alloc (.cells #[.bool n1, .slice L1 m1 c1, .int .i64 e1] 26)) 26 #[.bool n2, .slice L2 m2 c2, .int .i64 e2]
  rw [World.size_alloc] at hb0
  have gr1 := fun (w : World) => great_any n1 L1 m1 c1 e1 w
  have gr2 := fun (w : World) => great_any n2 L2 m2 c2 e2 w
  rw [hg1] at gr1
  rw [hg2] at gr2
  clear hg2
  clear hg1
  go_enter Try.func7, Try.ntmps7
  go_wp2_with fail
  refine (alive_any _).mono ?_
  rintro en w1 ⟨rfl, hs1⟩
  have hB1 := hB0.trans (hs1.mono hB0.size)
  have ha1 := ha0.below hs1 ha0.lt
  have hb1 := hb0.below hs1 hb0.lt
  clear ha0 hb0 hs1 hB0
  have p0 := ha1.cell 0
  have p1 := ha1.cell 1
  have p2 := ha1.cell 2
  have q0 := hb1.cell 0
  have q1 := hb1.cell 1
  have q2 := hb1.cell 2
  go_wp2_with fail
  refine (gr1 _).mono ?_
  rintro en w2 ⟨rfl, hs2⟩
  have hB2 := hB1.trans (hs2.mono hB1.size)
  have ha2 := ha1.below hs2 ha1.lt
  have hb2 := hb1.below hs2 hb1.lt
  clear ha1 hb1 hs2 hB1 p0 p1 p2 q0 q1 q2
  have p0 := ha2.cell 0
  have p1 := ha2.cell 1
  have p2 := ha2.cell 2
  have q0 := hb2.cell 0
  have q1 := hb2.cell 1
  have q2 := hb2.cell 2
  go_wp2_with fail
  refine (gr2 _).mono ?_
  rintro en w3 ⟨rfl, hs3⟩
  have hB3 := hB2.trans (hs3.mono hB2.size)
  have ha3 := ha2.below hs3 ha2.lt
  have hb3 := hb2.below hs3 hb2.lt
  clear ha2 hb2 hs3 hB2 p0 p1 p2 q0 q1 q2 gr1 gr2
  have p0 := ha3.cell 0
  have p1 := ha3.cell 1
  have p2 := ha3.cell 2
  have q0 := hb3.cell 0
  have q1 := hb3.cell 1
  have q2 := hb3.cell 2
  have HL1 := Lib.hid hl1
  have HL2 := Lib.hid hl2
  have HZ1 := Lib.hid hz1
  have HZ2 := Lib.hid hz2
  have HU1 := Lib.hid hu1
  have HU2 := Lib.hid hu2
  clear hl1 hl2 hz1 hz2 hu1 hu2
  have g1 := fun (w : World) h => putd_u none 0 0 [] rfl (by omega) n1 L1 m1 c1 l1 HL1.out HZ1.out HU1.out e1 w Reads.none_ h
  have hE1v := (pd_yes (b := []) hd (by simp)).2
  have hlenk1 := pdX_len [] n1 l1 e1
  obtain ⟨X1, hXk1⟩ : ∃ X, pdX [] n1 l1 e1 = X := ⟨_, rfl⟩
  obtain ⟨k1, hk1⟩ : ∃ k, X1.length = k := ⟨_, rfl⟩
  simp only [hE1v] at g1
  obtain ⟨E1, hEk1⟩ : ∃ E : Int, E = 0 := ⟨0, rfl⟩
  clear hEk1
  simp only [hXk1] at g1
  rw [hXk1, hk1] at hlenk1
  replace hk1 := Lib.hid hk1
  replace hXk1 := Lib.hid hXk1
  go_wp2_with fail
  refine (g1 _ ((hR1.below hB3).more hB3.size)).mono ?_
  intro en w4 hh
  obtain ⟨A4, t4, rfl, ho4, hs4⟩ := hh.at_ k1 hk1.out
  clear hh
  have hB4 := hB3.trans (hs4.mono hB3.size)
  have ha4 := ha3.below hs4 ha3.lt
  have hb4 := hb3.below hs4 hb3.lt
  clear ha3 hb3 p0 p1 p2 q0 q1 q2
  have p0 := ha4.cell 0
  have p1 := ha4.cell 1
  have p2 := ha4.cell 2
  have q0 := hb4.cell 0
  have q1 := hb4.cell 1
  have q2 := hb4.cell 2
  clear g1
  have g2 := fun (w : World) h => putn_u A4 k1 t4 X1 hk1.out (by omega) x hx s w h
  have hE2v := hn X1 hXk1.out.symm
  clear hn
  have hlenk2 := pnX_len X1 x s
  obtain ⟨X2, hXk2⟩ : ∃ X, pnX X1 x s = X := ⟨_, rfl⟩
  obtain ⟨k2, hk2⟩ : ∃ k, X2.length = k := ⟨_, rfl⟩
  simp only [hE2v] at g2
  obtain ⟨E2, hEk2⟩ : ∃ E : Int, E = 0 := ⟨0, rfl⟩
  clear hEk2
  simp only [hXk2] at g2
  rw [hXk2, hk2] at hlenk2
  replace hk2 := Lib.hid hk2
  replace hXk2 := Lib.hid hXk2
  go_wp2_with fail
  refine (g2 _ (Reads.of_own ho4)).mono ?_
  intro en w5 hh
  obtain ⟨A5, t5, rfl, ho5, hs5⟩ := hh.at_ k2 hk2.out
  clear hh
  have hB5 := hB4.trans (hs5.mono hB4.size)
  have ha5 := ha4.below hs5 ha4.lt
  have hb5 := hb4.below hs5 hb4.lt
  clear ha4 hb4 p0 p1 p2 q0 q1 q2
  have p0 := ha5.cell 0
  have p1 := ha5.cell 1
  have p2 := ha5.cell 2
  have q0 := hb5.cell 0
  have q1 := hb5.cell 1
  have q2 := hb5.cell 2
  clear g2 ho4
  have g3 := fun (w : World) h h2 => putd_u A5 k2 t5 X2 hk2.out (by omega) n2 L2 m2 c2 l2 HL2.out HZ2.out HU2.out e2 w h h2
  have hE3v := (pd_no (b := X2) hd2).2
  have hlenk3 := pdX_len X2 n2 l2 e2
  obtain ⟨X3, hXk3⟩ : ∃ X, pdX X2 n2 l2 e2 = X := ⟨_, rfl⟩
  obtain ⟨k3, hk3⟩ : ∃ k, X3.length = k := ⟨_, rfl⟩
  simp only [hE3v] at g3
  obtain ⟨E3, hEk3⟩ : ∃ E : Int, E = 0 := ⟨0, rfl⟩
  clear hEk3
  simp only [hXk3] at g3
  rw [hXk3, hk3] at hlenk3
  replace hk3 := Lib.hid hk3
  replace hXk3 := Lib.hid hXk3
  go_wp2_with fail
  refine (g3 _ (Reads.of_own ho5) ((hR2.below hB5).more hB5.size)).mono ?_
  intro en w6 hh
  obtain ⟨A6, t6, rfl, ho6, hs6⟩ := hh.at_ k3 hk3.out
  clear hh
  have hB6 := hB5.trans (hs6.mono hB5.size)
  have ha6 := ha5.below hs6 ha5.lt
  have hb6 := hb5.below hs6 hb5.lt
  clear ha5 hb5 p0 p1 p2 q0 q1 q2
  have p0 := ha6.cell 0
  have p1 := ha6.cell 1
  have p2 := ha6.cell 2
  have q0 := hb6.cell 0
  have q1 := hb6.cell 1
  have q2 := hb6.cell 2
  clear g3 ho5
  clear hE1v hE2v hE3v ho6
  have gc1 := fun (w : World) h => dcheck_any n1 L1 m1 c1 l1 HL1.out HZ1.out e1 w h
  simp only [hd] at gc1
  go_wp2_with fail
  refine (gc1 _ ((hR1.below hB6).more hB6.size)).mono ?_
  rintro en w7 ⟨rfl, hs7⟩
  have hB7 := hB6.trans (hs7.mono hB6.size)
  have ha7 := ha6.below hs7 ha6.lt
  have hb7 := hb6.below hs7 hb6.lt
  clear ha6 hb6 p0 p1 p2 q0 q1 q2 gc1 hs7
  have p0 := ha7.cell 0
  have p1 := ha7.cell 1
  have p2 := ha7.cell 2
  have q0 := hb7.cell 0
  have q1 := hb7.cell 1
  have q2 := hb7.cell 2
  have gc2 := fun (w : World) h => dcheck_any n2 L2 m2 c2 l2 HL2.out HZ2.out e2 w h
  simp only [hd2] at gc2
  go_wp2_with fail
  refine (gc2 _ ((hR2.below hB7).more hB7.size)).mono ?_
  rintro en w8 ⟨rfl, hs8⟩
  have hB8 := hB7.trans (hs8.mono hB7.size)
  have ha8 := ha7.below hs8 ha7.lt
  have hb8 := hb7.below hs8 hb7.lt
  clear ha7 hb7 p0 p1 p2 q0 q1 q2 gc2 hs8
  have p0 := ha8.cell 0
  have p1 := ha8.cell 1
  have p2 := ha8.cell 2
  have q0 := hb8.cell 0
  have q1 := hb8.cell 1
  have q2 := hb8.cell 2
  clear hd hd2
  clear hR1 hR2 hs4 hs5 hs6 ha8 hb8
  go_wp2
  go_ret
  exact ⟨rfl, hB8⟩
set_option maxRecDepth 100000 in
set_option maxHeartbeats 16000000 in
theorem good (x : Nat) (hx : x < 18446744073709551616) (s : Int) (n1 : Bool) (L1 : Option Addr) (m1 c1 : Nat) (l1 : List Int) (hl1 : l1.length = m1) (hz1 : ∀ y ∈ l1, 0 ≤ y) (hu1 : ∀ y ∈ l1, y < 4294967296) (e1 : Int) (n2 : Bool) (L2 : Option Addr) (m2 c2 : Nat) (l2 : List Int) (hl2 : l2.length = m2) (hz2 : ∀ y ∈ l2, 0 ≤ y) (hu2 : ∀ y ∈ l2, y < 4294967296) (e2 : Int) (hg1 : greatB m1 e1 = false) (hg2 : greatB m2 e2 = false) (hd : mayD n1 l1 e1 = true) (hn : pnE (pdX [] n1 l1 e1) x s = 0) (hd2 : mayD n2 l2 e2 = true) (w : World) (hR1 : Reads w w.heap.size 1 L1 m1 (u32s l1)) (hR2 : Reads w w.heap.size 1 L2 m2 (u32s l2)) :
    Calls Try.prog 7 #[.int .u64 x, .int .i64 s, dy n1 L1 m1 c1 e1, dy n2 L2 m2 c2 e2] w fun en w' => en = .returned (.bool true) ∧ Below w.heap.size w w' := by
  obtain ⟨hm1, he10, he11⟩ := may_parts hd
  obtain ⟨hm2, he20, he21⟩ := may_parts hd2
  rw [hl1] at hm1
  rw [hl2] at hm2
  have hE1x := pd_yes (b := []) hd (by simp)
  obtain ⟨sn, rfl, s1, s8, hxs, hX2e⟩ := pn_zero hn
  obtain ⟨en1, rfl⟩ : ∃ k : Nat, e1 = (k : Int) := ⟨e1.toNat, (Int.toNat_of_nonneg he10).symm⟩
  obtain ⟨en2, rfl⟩ : ∃ k : Nat, e2 = (k : Int) := ⟨e2.toNat, (Int.toNat_of_nonneg he20).symm⟩
  have hB0 := ((Below.refl w.heap.size w).alloc (Nat.le_refl _) (.cells #[.bool n1, .slice L1 m1 c1, .int .i64 (en1 : Int)] 26)).alloc (by rw [World.size_alloc]; omega) (.cells #[.bool n2, .slice L2 m2 c2, .int .i64 (en2 : Int)] 26)
  have ha0 := (Blk.new w 26 #[.bool n1, .slice L1 m1 c1, .int .i64 (en1 : Int)]).alloc (.cells #[.bool n2, .slice L2 m2 c2, .int .i64 (en2 : Int)] 26)
  have hb0 := Blk.new (w.alloc (.cells #[.bool n1, .slice L1 m1 c1, .int .i64 (en1 : Int)] 26)) 26 #[.bool n2, .slice L2 m2 c2, .int .i64 (en2 : Int)]
  rw [World.size_alloc] at hb0
  have gr1 := fun (w : World) => great_any n1 L1 m1 c1 (en1 : Int) w
  have gr2 := fun (w : World) => great_any n2 L2 m2 c2 (en2 : Int) w
  rw [hg1] at gr1
  rw [hg2] at gr2
  clear hg2
  clear hg1
  go_enter Try.func7, Try.ntmps7
  go_wp2_with fail
  refine (alive_any _).mono ?_
  rintro en w1 ⟨rfl, hs1⟩
  have hB1 := hB0.trans (hs1.mono hB0.size)
  have ha1 := ha0.below hs1 ha0.lt
  have hb1 := hb0.below hs1 hb0.lt
  clear ha0 hb0 hs1 hB0
  have p0 := ha1.cell 0
  have p1 := ha1.cell 1
  have p2 := ha1.cell 2
  have q0 := hb1.cell 0
  have q1 := hb1.cell 1
  have q2 := hb1.cell 2
  go_wp2_with fail
  refine (gr1 _).mono ?_
  rintro en w2 ⟨rfl, hs2⟩
  have hB2 := hB1.trans (hs2.mono hB1.size)
  have ha2 := ha1.below hs2 ha1.lt
  have hb2 := hb1.below hs2 hb1.lt
  clear ha1 hb1 hs2 hB1 p0 p1 p2 q0 q1 q2
  have p0 := ha2.cell 0
  have p1 := ha2.cell 1
  have p2 := ha2.cell 2
  have q0 := hb2.cell 0
  have q1 := hb2.cell 1
  have q2 := hb2.cell 2
  go_wp2_with fail
  refine (gr2 _).mono ?_
  rintro en w3 ⟨rfl, hs3⟩
  have hB3 := hB2.trans (hs3.mono hB2.size)
  have ha3 := ha2.below hs3 ha2.lt
  have hb3 := hb2.below hs3 hb2.lt
  clear ha2 hb2 hs3 hB2 p0 p1 p2 q0 q1 q2 gr1 gr2
  have p0 := ha3.cell 0
  have p1 := ha3.cell 1
  have p2 := ha3.cell 2
  have q0 := hb3.cell 0
  have q1 := hb3.cell 1
  have q2 := hb3.cell 2
  have HL1 := Lib.hid hl1
  have HL2 := Lib.hid hl2
  have HZ1 := Lib.hid hz1
  have HZ2 := Lib.hid hz2
  have HU1 := Lib.hid hu1
  have HU2 := Lib.hid hu2
  clear hl1 hl2 hz1 hz2 hu1 hu2
  have g1 := fun (w : World) h => putd_u none 0 0 [] rfl (by omega) n1 L1 m1 c1 l1 HL1.out HZ1.out HU1.out (en1 : Int) w Reads.none_ h
  have hE1v := hE1x.2
  have hlenk1 := pdX_len [] n1 l1 (en1 : Int)
  obtain ⟨X1, hXk1⟩ : ∃ X, pdX [] n1 l1 (en1 : Int) = X := ⟨_, rfl⟩
  obtain ⟨k1, hk1⟩ : ∃ k, X1.length = k := ⟨_, rfl⟩
  simp only [hE1v] at g1
  obtain ⟨E1, hEk1⟩ : ∃ E : Int, E = 0 := ⟨0, rfl⟩
  clear hEk1
  simp only [hXk1] at g1
  rw [hXk1, hk1] at hlenk1
  replace hk1 := Lib.hid hk1
  replace hXk1 := Lib.hid hXk1
  go_wp2_with fail
  refine (g1 _ ((hR1.below hB3).more hB3.size)).mono ?_
  intro en w4 hh
  obtain ⟨A4, t4, rfl, ho4, hs4⟩ := hh.at_ k1 hk1.out
  clear hh
  have hB4 := hB3.trans (hs4.mono hB3.size)
  have ha4 := ha3.below hs4 ha3.lt
  have hb4 := hb3.below hs4 hb3.lt
  clear ha3 hb3 p0 p1 p2 q0 q1 q2
  have p0 := ha4.cell 0
  have p1 := ha4.cell 1
  have p2 := ha4.cell 2
  have q0 := hb4.cell 0
  have q1 := hb4.cell 1
  have q2 := hb4.cell 2
  clear g1
  have g2 := fun (w : World) h => putn_u A4 k1 t4 X1 hk1.out (by omega) x hx (sn : Int) w h
  have hE2v : pnE X1 x (sn : Int) = 0 := by rw [← hXk1.out]; exact hn
  have hlenk2 := pnX_len X1 x (sn : Int)
  obtain ⟨X2, hXk2⟩ : ∃ X, pnX X1 x (sn : Int) = X := ⟨_, rfl⟩
  obtain ⟨k2, hk2⟩ : ∃ k, X2.length = k := ⟨_, rfl⟩
  simp only [hE2v] at g2
  obtain ⟨E2, hEk2⟩ : ∃ E : Int, E = 0 := ⟨0, rfl⟩
  clear hEk2
  simp only [hXk2] at g2
  rw [hXk2, hk2] at hlenk2
  replace hk2 := Lib.hid hk2
  replace hXk2 := Lib.hid hXk2
  go_wp2_with fail
  refine (g2 _ (Reads.of_own ho4)).mono ?_
  intro en w5 hh
  obtain ⟨A5, t5, rfl, ho5, hs5⟩ := hh.at_ k2 hk2.out
  clear hh
  have hB5 := hB4.trans (hs5.mono hB4.size)
  have ha5 := ha4.below hs5 ha4.lt
  have hb5 := hb4.below hs5 hb4.lt
  clear ha4 hb4 p0 p1 p2 q0 q1 q2
  have p0 := ha5.cell 0
  have p1 := ha5.cell 1
  have p2 := ha5.cell 2
  have q0 := hb5.cell 0
  have q1 := hb5.cell 1
  have q2 := hb5.cell 2
  clear g2 ho4
  have g3 := fun (w : World) h h2 => putd_u A5 k2 t5 X2 hk2.out (by omega) n2 L2 m2 c2 l2 HL2.out HZ2.out HU2.out (en2 : Int) w h h2
  have hE3x := pd_yes (b := X2) hd2 (by rw [hk2.out, ← hk2.out, ← hXk2.out, ← hXk1.out, hX2e, hE1x.1]; simp [flat_len, total_pts, digs_len, HL1.out]; omega)
  have hE3v := hE3x.2
  have hlenk3 := pdX_len X2 n2 l2 (en2 : Int)
  obtain ⟨X3, hXk3⟩ : ∃ X, pdX X2 n2 l2 (en2 : Int) = X := ⟨_, rfl⟩
  obtain ⟨k3, hk3⟩ : ∃ k, X3.length = k := ⟨_, rfl⟩
  simp only [hE3v] at g3
  obtain ⟨E3, hEk3⟩ : ∃ E : Int, E = 0 := ⟨0, rfl⟩
  clear hEk3
  simp only [hXk3] at g3
  rw [hXk3, hk3] at hlenk3
  replace hk3 := Lib.hid hk3
  replace hXk3 := Lib.hid hXk3
  go_wp2_with fail
  refine (g3 _ (Reads.of_own ho5) ((hR2.below hB5).more hB5.size)).mono ?_
  intro en w6 hh
  obtain ⟨A6, t6, rfl, ho6, hs6⟩ := hh.at_ k3 hk3.out
  clear hh
  have hB6 := hB5.trans (hs6.mono hB5.size)
  have ha6 := ha5.below hs6 ha5.lt
  have hb6 := hb5.below hs6 hb5.lt
  clear ha5 hb5 p0 p1 p2 q0 q1 q2
  have p0 := ha6.cell 0
  have p1 := ha6.cell 1
  have p2 := ha6.cell 2
  have q0 := hb6.cell 0
  have q1 := hb6.cell 1
  have q2 := hb6.cell 2
  clear g3 ho5
  have hX1f : X1 = flat (ptsD n1 l1 (en1 : Int)) := hXk1.out.symm.trans (hE1x.1.trans (List.nil_append _))
  have hX2f : X2 = X1 ++ digs x sn := hXk2.out.symm.trans (by rw [← hXk1.out]; exact hX2e)
  have hX3f : X3 = X2 ++ flat (ptsD n2 l2 (en2 : Int)) := hXk3.out.symm.trans hE3x.1
  have hk1v : k1 = 4 + 4 * m1 := by rw [← hk1.out, hX1f, flat_len, total_pts, HL1.out]
  have hk2v : k1 + sn = k2 := by rw [← hk2.out, hX2f, List.length_append, digs_len, hk1.out]
  have hk3v : k3 = k2 + (4 + 4 * m2) := by rw [← hk3.out, hX3f, List.length_append, flat_len, total_pts, HL2.out, hk2.out]
  have hZ1 : X3 = [] ++ (flat (ptsD n1 l1 (en1 : Int)) ++ (digs x sn ++ flat (ptsD n2 l2 (en2 : Int)))) := by rw [hX3f, hX2f, hX1f, List.nil_append, List.append_assoc]
  have hZ2 : X3 = X2 ++ (flat (ptsD n2 l2 (en2 : Int)) ++ []) := by rw [hX3f, List.append_nil]
  have hZs : X3 = X1 ++ (digs x sn ++ flat (ptsD n2 l2 (en2 : Int))) := by rw [hX3f, hX2f, List.append_assoc]
  have hnum : numI ((X3.drop k1).take sn) = (x : Int) := by rw [part_at hZs hk1.out, Nat.mod_eq_of_lt hxs]
  have hZb : ∀ b ∈ X3, 0 ≤ b ∧ b < 256 := fun b hb => by
    rw [hZ1, List.nil_append] at hb
    rcases List.mem_append.mp hb with h | h
    · exact flat_byte _ b h
    · rcases List.mem_append.mp h with h | h
      · exact digs_byte _ _ b h
      · exact flat_byte _ b h
  have hnc := own_cap ho6
  have hRz := Reads.of_own ho6
  have rz : ∀ W, Below w6.heap.size w6 W → Reads W W.heap.size 1 A6 k3 (u8s X3) := fun W h => (hRz.below h).more h.size
  have g7 := fun (w : World) h => dyad_m A6 k3 t6 X3 [] _ l1 n1 en1 0 k1 m1 hk3.out hZb (by omega) hnc hZ1 rfl HL1.out (by omega) HZ1.out HU1.out hd (by omega) (by omega) w h
  have g8 := fun (w : World) h => num_m A6 k3 t6 X3 hk3.out hZb (by omega) hnc k1 sn k2 (x : Int) hk2v hnum s1 s8 (by omega) w h
  have g9 := fun (w : World) h => dyad_m A6 k3 t6 X3 X2 [] l2 n2 en2 k2 k3 m2 hk3.out hZb (by omega) hnc hZ2 hk2.out HL2.out hk3v HZ2.out HU2.out hd2 (by omega) (by omega) w h
  have hne : ((k2 : Int) == (k3 : Int)) = false := beq_eq_false_iff_ne.mpr (by omega)
  have heq : ((k3 : Int) == (k3 : Int)) = true := by simp
  have hxx : ((x : Int) == (x : Int)) = true := by simp
  have hm1' : m1 ≤ 100 := by omega
  have hm2' : m2 ≤ 100 := by omega
  clear hE1v hE2v hE3v hE3x hE1x hX2e hxs hk1v hk2v hk3v hX1f hX2f hX3f hZ1 hZ2 hZs hnum hZb hnc ho6 hRz hs4 hs5 hd hd2 s1 s8 hlenk1 hlenk2 hlenk3 hm1 hm2 he10 he11 he20 he21 hn hs6
  go_wp2_with fail
  refine (g7 _ (rz _ (Below.refl _ _))).mono ?_
  rintro en w7 ⟨A7, t7, rfl, ho7, hs7⟩
  have hB7 := hB6.trans (hs7.mono hB6.size)
  have ha7 := ((ha6.below hs7 ha6.lt).alloc (.cells #[.slice A6 k3 t6, .int .i64 (k1 : Int)] 39)).alloc (.cells #[.bool n1, .slice A7 m1 t7, .int .i64 (en1 : Int)] 26)
  have hb7 := ((hb6.below hs7 hb6.lt).alloc (.cells #[.slice A6 k3 t6, .int .i64 (k1 : Int)] 39)).alloc (.cells #[.bool n1, .slice A7 m1 t7, .int .i64 (en1 : Int)] 26)
  have K17 := Blk.new (w7.alloc (.cells #[.slice A6 k3 t6, .int .i64 (k1 : Int)] 39)) 26 #[.bool n1, .slice A7 m1 t7, .int .i64 (en1 : Int)]
  rw [World.size_alloc] at K17
  have hB8 := (hB7.alloc hB7.size (.cells #[.slice A6 k3 t6, .int .i64 (k1 : Int)] 39)).alloc (hB7.alloc hB7.size _).size (.cells #[.bool n1, .slice A7 m1 t7, .int .i64 (en1 : Int)] 26)
  have hC8 := (hs7.alloc hs7.size (.cells #[.slice A6 k3 t6, .int .i64 (k1 : Int)] 39)).alloc (hs7.alloc hs7.size _).size (.cells #[.bool n1, .slice A7 m1 t7, .int .i64 (en1 : Int)] 26)
  have hR7 := ((Reads.of_own ho7).alloc (Nat.le_refl _) (.cells #[.slice A6 k3 t6, .int .i64 (k1 : Int)] 39)).alloc (by rw [World.size_alloc]; omega) (.cells #[.bool n1, .slice A7 m1 t7, .int .i64 (en1 : Int)] 26)
  have hl78 : w7.heap.size ≤ ((w7.alloc (.cells #[.slice A6 k3 t6, .int .i64 (k1 : Int)] 39)).alloc (.cells #[.bool n1, .slice A7 m1 t7, .int .i64 (en1 : Int)] 26)).heap.size := by rw [World.size_alloc, World.size_alloc]; omega
  clear ha6 hb6 ho7 hs7 hB7 hB6 p0 p1 p2 q0 q1 q2 g7
  go_wp2_with fail
  refine (g8 _ (rz _ hC8)).mono ?_
  rintro en w8 ⟨rfl, hs8⟩
  have hB9 := (hB8.trans (hs8.mono hB8.size))
  have hC9 := hC8.trans (hs8.mono hC8.size)
  have ha8 := (ha7.below hs8 ha7.lt).alloc (.cells #[.slice A6 k3 t6, .int .i64 (k2 : Int)] 39)
  have hb8 := (hb7.below hs8 hb7.lt).alloc (.cells #[.slice A6 k3 t6, .int .i64 (k2 : Int)] 39)
  have K17b := (K17.below hs8 K17.lt).alloc (.cells #[.slice A6 k3 t6, .int .i64 (k2 : Int)] 39)
  have K19 := Blk.new w8 39 #[.slice A6 k3 t6, .int .i64 (k2 : Int)]
  have hR8 := (hR7.below (hs8.mono hl78)).alloc (Nat.le_trans hl78 hs8.size) (.cells #[.slice A6 k3 t6, .int .i64 (k2 : Int)] 39)
  have hl8 : w7.heap.size ≤ (w8.alloc (.cells #[.slice A6 k3 t6, .int .i64 (k2 : Int)] 39)).heap.size := by have := hs8.size; rw [World.size_alloc]; omega
  have hBx := hB9.alloc hB9.size (.cells #[.slice A6 k3 t6, .int .i64 (k2 : Int)] 39)
  have hCx := hC9.alloc hC9.size (.cells #[.slice A6 k3 t6, .int .i64 (k2 : Int)] 39)
  clear ha7 hb7 K17 hR7 hs8 hB8 hC8 hB9 hC9 hl78 g8
  go_wp2_with fail
  refine (g9 _ (rz _ hCx)).mono ?_
  rintro en w9 ⟨A9, t9, rfl, ho9, hs9⟩
  have hBy := hBx.trans (hs9.mono hBx.size)
  have ha9 := ((ha8.below hs9 ha8.lt).alloc (.cells #[.slice A6 k3 t6, .int .i64 (k3 : Int)] 39)).alloc (.cells #[.bool n2, .slice A9 m2 t9, .int .i64 (en2 : Int)] 26)
  have hb9 := ((hb8.below hs9 hb8.lt).alloc (.cells #[.slice A6 k3 t6, .int .i64 (k3 : Int)] 39)).alloc (.cells #[.bool n2, .slice A9 m2 t9, .int .i64 (en2 : Int)] 26)
  have K17c := ((K17b.below hs9 K17b.lt).alloc (.cells #[.slice A6 k3 t6, .int .i64 (k3 : Int)] 39)).alloc (.cells #[.bool n2, .slice A9 m2 t9, .int .i64 (en2 : Int)] 26)
  have K19c := ((K19.below hs9 K19.lt).alloc (.cells #[.slice A6 k3 t6, .int .i64 (k3 : Int)] 39)).alloc (.cells #[.bool n2, .slice A9 m2 t9, .int .i64 (en2 : Int)] 26)
  have K22 := (Blk.new w9 39 #[.slice A6 k3 t6, .int .i64 (k3 : Int)]).alloc (.cells #[.bool n2, .slice A9 m2 t9, .int .i64 (en2 : Int)] 26)
  have K23 := Blk.new (w9.alloc (.cells #[.slice A6 k3 t6, .int .i64 (k3 : Int)] 39)) 26 #[.bool n2, .slice A9 m2 t9, .int .i64 (en2 : Int)]
  rw [World.size_alloc] at K23
  have hBz := (hBy.alloc hBy.size (.cells #[.slice A6 k3 t6, .int .i64 (k3 : Int)] 39)).alloc (hBy.alloc hBy.size _).size (.cells #[.bool n2, .slice A9 m2 t9, .int .i64 (en2 : Int)] 26)
  have hR9 := ((hR8.below (hs9.mono hl8)).alloc (Nat.le_trans hl8 hs9.size) (.cells #[.slice A6 k3 t6, .int .i64 (k3 : Int)] 39)).alloc (by have := hs9.size; rw [World.size_alloc]; omega) (.cells #[.bool n2, .slice A9 m2 t9, .int .i64 (en2 : Int)] 26)
  have hT9 := ((Reads.of_own ho9).alloc (Nat.le_refl _) (.cells #[.slice A6 k3 t6, .int .i64 (k3 : Int)] 39)).alloc (by rw [World.size_alloc]; omega) (.cells #[.bool n2, .slice A9 m2 t9, .int .i64 (en2 : Int)] 26)
  have hl9 : w7.heap.size ≤ ((w9.alloc (.cells #[.slice A6 k3 t6, .int .i64 (k3 : Int)] 39)).alloc (.cells #[.bool n2, .slice A9 m2 t9, .int .i64 (en2 : Int)] 26)).heap.size := by have := hs9.size; rw [World.size_alloc, World.size_alloc]; omega
  have hl9' : w9.heap.size ≤ ((w9.alloc (.cells #[.slice A6 k3 t6, .int .i64 (k3 : Int)] 39)).alloc (.cells #[.bool n2, .slice A9 m2 t9, .int .i64 (en2 : Int)] 26)).heap.size := by rw [World.size_alloc, World.size_alloc]; omega
  clear ha8 hb8 K17b K19 hR8 hs9 hBx hCx hl8 g9 ho9 hBy rz
  have a0 := ha9.cell 0
  have a1 := ha9.cell 1
  have a2 := ha9.cell 2
  have b0 := hb9.cell 0
  have b1 := hb9.cell 1
  have b2 := hb9.cell 2
  have f0 := K17c.cell 0
  have f1 := K17c.cell 1
  have f2 := K17c.cell 2
  have g0 := K19c.cell 0
  have g1 := K19c.cell 1
  have h0 := K22.cell 0
  have h1 := K22.cell 1
  have j0 := K23.cell 0
  have j1 := K23.cell 1
  have j2 := K23.cell 2
  go_wp2_with fail
  refine (psame_yes n1 (en1 : Int) A7 L1 m1 t7 c1 l1 HL1.out hm1' _ (hR9.more hl9) ((hR1.below hBz).more hBz.size)).mono ?_
  rintro en w10 ⟨rfl, hs10⟩
  have hB10 := hBz.trans (hs10.mono hBz.size)
  have hb10 := hb9.below hs10 hb9.lt
  have K19d := K19c.below hs10 K19c.lt
  have K22d := K22.below hs10 K22.lt
  have K23d := K23.below hs10 K23.lt
  have hT10 := hT9.below (hs10.mono hl9')
  have hl10 := Nat.le_trans hl9' hs10.size
  clear a0 a1 a2 b0 b1 b2 f0 f1 f2 g0 g1 h0 h1 j0 j1 j2 ha9 hb9 K17c K19c K22 K23 hT9 hR9 hBz hs10 hl9 hl9'
  have b0 := hb10.cell 0
  have b1 := hb10.cell 1
  have b2 := hb10.cell 2
  have g0 := K19d.cell 0
  have g1 := K19d.cell 1
  have h0 := K22d.cell 0
  have h1 := K22d.cell 1
  have j0 := K23d.cell 0
  have j1 := K23d.cell 1
  have j2 := K23d.cell 2
  go_wp2_with fail
  refine (psame_yes n2 (en2 : Int) A9 L2 m2 t9 c2 l2 HL2.out hm2' _ (hT10.more hl10) ((hR2.below hB10).more hB10.size)).mono ?_
  rintro en w11 ⟨rfl, hs11⟩
  have hB11 := hB10.trans (hs11.mono hB10.size)
  have K19e := K19d.below hs11 K19d.lt
  have K22e := K22d.below hs11 K22d.lt
  clear b0 b1 b2 g0 g1 h0 h1 j0 j1 j2 hb10 K19d K22d K23d hT10 hB10 hs11 hl10 hR1 hR2
  have g0 := K19e.cell 0
  have g1 := K19e.cell 1
  have h0 := K22e.cell 0
  have h1 := K22e.cell 1
  go_wp2_with fail
  refine (done_any A6 k3 t6 (k3 : Int) _).mono ?_
  rintro en w12 ⟨rfl, hs12⟩
  rw [heq]
  have hB12 := hB11.trans (hs12.mono hB11.size)
  have K19f := K19e.below hs12 K19e.lt
  clear g0 g1 h0 h1 K19e K22e hs12 hB11
  have g0 := K19f.cell 0
  have g1 := K19f.cell 1
  go_wp2_with fail
  refine (done_any A6 k3 t6 (k2 : Int) _).mono ?_
  rintro en w13 ⟨rfl, hs13⟩
  rw [hne]
  have hB13 := hB12.trans (hs13.mono hB12.size)
  clear K19f hs13 hB12
  go_wp2
  go_ret
  exact ⟨rfl, hB13⟩
theorem walk (x : Nat) (hx : x < 18446744073709551616) (s : Int) (n1 : Bool) (L1 : Option Addr) (m1 c1 : Nat) (l1 : List Int) (hl1 : l1.length = m1) (hz1 : ∀ y ∈ l1, 0 ≤ y) (hu1 : ∀ y ∈ l1, y < 4294967296) (e1 : Int) (n2 : Bool) (L2 : Option Addr) (m2 c2 : Nat) (l2 : List Int) (hl2 : l2.length = m2) (hz2 : ∀ y ∈ l2, 0 ≤ y) (hu2 : ∀ y ∈ l2, y < 4294967296) (e2 : Int) (w : World) (hR1 : Reads w w.heap.size 1 L1 m1 (u32s l1)) (hR2 : Reads w w.heap.size 1 L2 m2 (u32s l2)) :
    Calls Try.prog 7 #[.int .u64 x, .int .i64 s, dy n1 L1 m1 c1 e1, dy n2 L2 m2 c2 e2] w fun en w' => en = .returned (.bool true) ∧ Below w.heap.size w w' := by
  cases hg1 : greatB m1 e1
  · cases hg2 : greatB m2 e2
    · cases hd : mayD n1 l1 e1
      · exact bad1 x hx s n1 L1 m1 c1 l1 hl1 hz1 hu1 e1 n2 L2 m2 c2 l2 hl2 hz2 hu2 e2 hg1 hg2 hd w hR1 hR2
      · by_cases hn : pnE (pdX [] n1 l1 e1) x s = 0
        · cases hd2 : mayD n2 l2 e2
          · exact bad3 x hx s n1 L1 m1 c1 l1 hl1 hz1 hu1 e1 n2 L2 m2 c2 l2 hl2 hz2 hu2 e2 hg1 hg2 hd (fun X h => h ▸ hn) hd2 w hR1 hR2
          · exact good x hx s n1 L1 m1 c1 l1 hl1 hz1 hu1 e1 n2 L2 m2 c2 l2 hl2 hz2 hu2 e2 hg1 hg2 hd hn hd2 w hR1 hR2
        · exact bad2 x hx s n1 L1 m1 c1 l1 hl1 hz1 hu1 e1 n2 L2 m2 c2 l2 hl2 hz2 hu2 e2 hg1 hg2 hd (fun X h => by subst h; simpa using hn) w hR1 hR2
    · exact great2 x hx s n1 L1 m1 c1 l1 hl1 hz1 hu1 e1 n2 L2 m2 c2 l2 hl2 hz2 hu2 e2 hg1 hg2 w hR1 hR2
  · exact great1 x hx s n1 L1 m1 c1 l1 hl1 hz1 hu1 e1 n2 L2 m2 c2 l2 hl2 hz2 hu2 e2 hg1 w hR1 hR2
end Go.Proofs.Ytekeenldlkkljaa.FieldBack
