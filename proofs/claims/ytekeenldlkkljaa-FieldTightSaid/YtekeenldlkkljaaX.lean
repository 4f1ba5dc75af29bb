/- Field: the reference's May, Done, Same and Number of bytes that are read. -/
import Derived.Test.YtekeenldlkkljaaV
import Derived.Deep.RegionHeld3
namespace Go.Proofs.Ytekeenldlkkljaa
open Go.ChangeShapes Go.WideShapes Go.ChangeAt Go.RowKit
set_option linter.unusedSimpArgs false
set_option linter.unusedVariables false
theorem rmay34 (A : Option Addr) (n c : Nat) (p : Int) (w : World) : Calls Try.prog 34 #[rst A n c p] w fun en w' => en = .returned (.bool (rdrE n p == 0)) ∧ Below w.heap.size w w' := by
  have h1 : p < 0 ∨ (0 ≤ p ∧ p ≤ n) ∨ (0 ≤ p ∧ n < p) := by omega
  rcases h1 with h1 | ⟨h1, h2⟩ | ⟨h1, h2⟩
  · have d1 : decide (0 ≤ p) = false := decide_eq_false (by omega)
    rw [show rdrE n p = 8 from if_neg (by omega)]
    go_enter Try.func34, Try.ntmps34
    go_wp2
    go_ret
    exact ⟨rfl, (Below.refl _ w).alloc (Nat.le_refl _) _⟩
  · have d1 : decide (0 ≤ p) = true := decide_eq_true h1
    have d2 : decide (p ≤ (n : Int)) = true := decide_eq_true h2
    rw [show rdrE n p = 0 from if_pos ⟨h1, h2⟩]
    go_enter Try.func34, Try.ntmps34
    go_wp2
    go_ret
    exact ⟨rfl, (Below.refl _ w).alloc (Nat.le_refl _) _⟩
  · have d1 : decide (0 ≤ p) = true := decide_eq_true h1
    have d2 : decide (p ≤ (n : Int)) = false := decide_eq_false (by omega)
    rw [show rdrE n p = 8 from if_neg (by omega)]
    go_enter Try.func34, Try.ntmps34
    go_wp2
    go_ret
    exact ⟨rfl, (Below.refl _ w).alloc (Nat.le_refl _) _⟩
theorem rdone_any (A : Option Addr) (n c : Nat) (p : Int) (w : World) : Calls Try.prog 21 #[rst A n c p] w fun en w' => en = .returned (.bool (p == (n : Int))) ∧ Below w.heap.size w w' := by
  go_enter Try.func21, Try.ntmps21
  go_wp2
  go_ret
  exact ⟨rfl, (Below.refl _ w).alloc (Nat.le_refl _) _⟩
set_option maxHeartbeats 4000000 in
theorem rsame_yes (A A2 : Option Addr) (n c c2 : Nat) (p : Int) (l : List Int) (hn : l.length = n) (hb : ∀ b ∈ l, 0 ≤ b ∧ b < 256) (w : World) (hR : Reads w w.heap.size 1 A n (u8s l)) (hR2 : Reads w w.heap.size 1 A2 n (u8s l)) :
    Calls Try.prog 19 #[rst A n c p, rst A2 n c2 p] w fun en w' => en = .returned (.bool true) ∧ Below w.heap.size w w' := by
  have hB : Below w.heap.size w ((w.alloc (.cells #[.slice A n c, .int .i64 p] 39)).alloc (.cells #[.slice A2 n c2, .int .i64 p] 39)) := ((Below.refl _ w).alloc (Nat.le_refl _) _).alloc (by rw [World.size_alloc]; omega) _
  have k1 := conv_str (c := c) hn hb (hR.below hB)
  have k2 := conv_str (c := c2) hn hb (hR2.below hB)
  have d1 : (p == p) = true := by simp
  have d2 := str_same l
  clear hR hR2 hn hb
  go_enter Try.func19, Try.ntmps19
  go_wp2
  go_ret
  exact ⟨rfl, hB⟩
set_option maxHeartbeats 4000000 in
theorem rnum_bad (A : Option Addr) (n c : Nat) (p s : Int) (hp : rdrE n p = 8) (w : World) :
    Calls Try.prog 16 #[rst A n c p, .int .i64 s] w fun en w' => en = .returned (.tuple #[rst none 0 0 0, .int .u64 0, .int .i64 8]) ∧ Below w.heap.size w w' := by
  have hB0 := ((Below.refl w.heap.size w).alloc (Nat.le_refl _) (.cells #[.slice A n c, .int .i64 p] 39)).alloc (by rw [World.size_alloc]; omega) (.cells #[.slice none 0 0, .int .i64 0] 39)
  have hx0 := (Blk.new w 39 #[.slice A n c, .int .i64 p]).alloc (.cells #[.slice none 0 0, .int .i64 0] 39)
  have hr0 := Blk.new (w.alloc (.cells #[.slice A n c, .int .i64 p] 39)) 39 #[.slice none 0 0, .int .i64 0]
  rw [World.size_alloc] at hr0
  have hmy := fun (w : World) => rmay34 A n c p w
  rw [hp] at hmy
  go_enter Try.func16, Try.ntmps16
  go_wp2_with fail
  refine (hmy _).mono ?_
  rintro en w1 ⟨rfl, hb1⟩
  have hB1 := hB0.trans (hb1.mono hB0.size)
  have hx1 := hx0.below hb1 hx0.lt
  have hr1 := hr0.below hb1 hr0.lt
  clear hb1 hx0 hr0 hB0 hmy hp
  have x0 := hx1.cell 0
  have x1 := hx1.cell 1
  have r0 := hr1.cell 0
  have r1 := hr1.cell 1
  have rf0 := hr1.frozen 0
  have rf1 := hr1.frozen 1
  have rlt := hr1.lt
  go_wp2
  have K := (hr1.set_ 0 (.slice none 0 0)).set_ 1 (.int .i64 0)
  have z0 := K.cell 0
  have z1 := K.cell 1
  simp at z0 z1
  refine bodyPost_ret (v := .tuple #[rst none 0 0 0, .int .u64 0, .int .i64 8]) (by simp [results, Try.results16, go_sem, z0, z1]) rfl ⟨rfl, ?_⟩
  exact (hB1.setCell (p := ⟨w.heap.size + 1, 0, none⟩) (by show w.heap.size ≤ w.heap.size + 1; omega) _).setCell (p := ⟨w.heap.size + 1, 1, none⟩) (by show w.heap.size ≤ w.heap.size + 1; omega) _
set_option maxHeartbeats 4000000 in
theorem rnum_arg0 (A : Option Addr) (n c : Nat) (p s : Int) (hp : rdrE n p = 0) (h : s < 1) (w : World) :
    Calls Try.prog 16 #[rst A n c p, .int .i64 s] w fun en w' => en = .returned (.tuple #[rst none 0 0 0, .int .u64 0, .int .i64 2]) ∧ Below w.heap.size w w' := by
  have d1 : decide (s < 1) = true := decide_eq_true h
  clear h
  have hB0 := ((Below.refl w.heap.size w).alloc (Nat.le_refl _) (.cells #[.slice A n c, .int .i64 p] 39)).alloc (by rw [World.size_alloc]; omega) (.cells #[.slice none 0 0, .int .i64 0] 39)
  have hx0 := (Blk.new w 39 #[.slice A n c, .int .i64 p]).alloc (.cells #[.slice none 0 0, .int .i64 0] 39)
  have hr0 := Blk.new (w.alloc (.cells #[.slice A n c, .int .i64 p] 39)) 39 #[.slice none 0 0, .int .i64 0]
  rw [World.size_alloc] at hr0
  have hmy := fun (w : World) => rmay34 A n c p w
  rw [hp] at hmy
  go_enter Try.func16, Try.ntmps16
  go_wp2_with fail
  refine (hmy _).mono ?_
  rintro en w1 ⟨rfl, hb1⟩
  have hB1 := hB0.trans (hb1.mono hB0.size)
  have hx1 := hx0.below hb1 hx0.lt
  have hr1 := hr0.below hb1 hr0.lt
  clear hb1 hx0 hr0 hB0 hmy hp
  have x0 := hx1.cell 0
  have x1 := hx1.cell 1
  have r0 := hr1.cell 0
  have r1 := hr1.cell 1
  have rf0 := hr1.frozen 0
  have rf1 := hr1.frozen 1
  have rlt := hr1.lt
  go_wp2
  have K := (hr1.set_ 0 (.slice none 0 0)).set_ 1 (.int .i64 0)
  have z0 := K.cell 0
  have z1 := K.cell 1
  simp at z0 z1
  refine bodyPost_ret (v := .tuple #[rst none 0 0 0, .int .u64 0, .int .i64 2]) (by simp [results, Try.results16, go_sem, z0, z1]) rfl ⟨rfl, ?_⟩
  exact (hB1.setCell (p := ⟨w.heap.size + 1, 0, none⟩) (by show w.heap.size ≤ w.heap.size + 1; omega) _).setCell (p := ⟨w.heap.size + 1, 1, none⟩) (by show w.heap.size ≤ w.heap.size + 1; omega) _
set_option maxHeartbeats 4000000 in
theorem rnum_arg8 (A : Option Addr) (n c : Nat) (p s : Int) (hp : rdrE n p = 0) (h : 8 < s) (w : World) :
    Calls Try.prog 16 #[rst A n c p, .int .i64 s] w fun en w' => en = .returned (.tuple #[rst none 0 0 0, .int .u64 0, .int .i64 2]) ∧ Below w.heap.size w w' := by
  have d1 : decide (s < 1) = false := decide_eq_false (by omega)
  have d2 : decide (8 < s) = true := decide_eq_true h
  clear h
  have hB0 := ((Below.refl w.heap.size w).alloc (Nat.le_refl _) (.cells #[.slice A n c, .int .i64 p] 39)).alloc (by rw [World.size_alloc]; omega) (.cells #[.slice none 0 0, .int .i64 0] 39)
  have hx0 := (Blk.new w 39 #[.slice A n c, .int .i64 p]).alloc (.cells #[.slice none 0 0, .int .i64 0] 39)
  have hr0 := Blk.new (w.alloc (.cells #[.slice A n c, .int .i64 p] 39)) 39 #[.slice none 0 0, .int .i64 0]
  rw [World.size_alloc] at hr0
  have hmy := fun (w : World) => rmay34 A n c p w
  rw [hp] at hmy
  go_enter Try.func16, Try.ntmps16
  go_wp2_with fail
  refine (hmy _).mono ?_
  rintro en w1 ⟨rfl, hb1⟩
  have hB1 := hB0.trans (hb1.mono hB0.size)
  have hx1 := hx0.below hb1 hx0.lt
  have hr1 := hr0.below hb1 hr0.lt
  clear hb1 hx0 hr0 hB0 hmy hp
  have x0 := hx1.cell 0
  have x1 := hx1.cell 1
  have r0 := hr1.cell 0
  have r1 := hr1.cell 1
  have rf0 := hr1.frozen 0
  have rf1 := hr1.frozen 1
  have rlt := hr1.lt
  go_wp2
  have K := (hr1.set_ 0 (.slice none 0 0)).set_ 1 (.int .i64 0)
  have z0 := K.cell 0
  have z1 := K.cell 1
  simp at z0 z1
  refine bodyPost_ret (v := .tuple #[rst none 0 0 0, .int .u64 0, .int .i64 2]) (by simp [results, Try.results16, go_sem, z0, z1]) rfl ⟨rfl, ?_⟩
  exact (hB1.setCell (p := ⟨w.heap.size + 1, 0, none⟩) (by show w.heap.size ≤ w.heap.size + 1; omega) _).setCell (p := ⟨w.heap.size + 1, 1, none⟩) (by show w.heap.size ≤ w.heap.size + 1; omega) _
set_option maxHeartbeats 4000000 in
theorem rnum_short (A : Option Addr) (n c : Nat) (p s : Int) (hp : rdrE n p = 0) (hm : n ≤ 100000) (h1 : 1 ≤ s) (h8 : s ≤ 8) (hp0 : 0 ≤ p) (hpn : p ≤ n) (hs : (n : Int) < p + s) (w : World) :
    Calls Try.prog 16 #[rst A n c p, .int .i64 s] w fun en w' => en = .returned (.tuple #[rst none 0 0 0, .int .u64 0, .int .i64 40]) ∧ Below w.heap.size w w' := by
  have d1 : decide (s < 1) = false := decide_eq_false (by omega)
  have d2 : decide (8 < s) = false := decide_eq_false (by omega)
  have wv : IntKind.i64.wrap ((n : Int) - p) = (n : Int) - p := IntWalk.i64_in _ (by omega)
  have d3 : decide ((n : Int) - p < s) = true := decide_eq_true (by omega)
  clear h1 h8 hp0 hpn hs
  have hB0 := ((Below.refl w.heap.size w).alloc (Nat.le_refl _) (.cells #[.slice A n c, .int .i64 p] 39)).alloc (by rw [World.size_alloc]; omega) (.cells #[.slice none 0 0, .int .i64 0] 39)
  have hx0 := (Blk.new w 39 #[.slice A n c, .int .i64 p]).alloc (.cells #[.slice none 0 0, .int .i64 0] 39)
  have hr0 := Blk.new (w.alloc (.cells #[.slice A n c, .int .i64 p] 39)) 39 #[.slice none 0 0, .int .i64 0]
  rw [World.size_alloc] at hr0
  have hmy := fun (w : World) => rmay34 A n c p w
  rw [hp] at hmy
  go_enter Try.func16, Try.ntmps16
  go_wp2_with fail
  refine (hmy _).mono ?_
  rintro en w1 ⟨rfl, hb1⟩
  have hB1 := hB0.trans (hb1.mono hB0.size)
  have hx1 := hx0.below hb1 hx0.lt
  have hr1 := hr0.below hb1 hr0.lt
  clear hb1 hx0 hr0 hB0 hmy hp
  have x0 := hx1.cell 0
  have x1 := hx1.cell 1
  have r0 := hr1.cell 0
  have r1 := hr1.cell 1
  have rf0 := hr1.frozen 0
  have rf1 := hr1.frozen 1
  have rlt := hr1.lt
  go_wp2
  have K := (hr1.set_ 0 (.slice none 0 0)).set_ 1 (.int .i64 0)
  have z0 := K.cell 0
  have z1 := K.cell 1
  simp at z0 z1
  refine bodyPost_ret (v := .tuple #[rst none 0 0 0, .int .u64 0, .int .i64 40]) (by simp [results, Try.results16, go_sem, z0, z1]) rfl ⟨rfl, ?_⟩
  exact (hB1.setCell (p := ⟨w.heap.size + 1, 0, none⟩) (by show w.heap.size ≤ w.heap.size + 1; omega) _).setCell (p := ⟨w.heap.size + 1, 1, none⟩) (by show w.heap.size ≤ w.heap.size + 1; omega) _
set_option maxRecDepth 100000 in
set_option maxHeartbeats 8000000 in
theorem rnum_ok (A : Option Addr) (n c : Nat) (l : List Int) (hn : l.length = n) (hb : ∀ b ∈ l, 0 ≤ b ∧ b < 256) (hm : n ≤ 100000) (hnc : n ≤ c) (p s : Nat) (h1 : 1 ≤ s) (h8 : s ≤ 8) (hps : p + s ≤ n) (w : World) (hR : Reads w w.heap.size 1 A n (u8s l)) :
    Calls Try.prog 16 #[rst A n c (p : Int), .int .i64 (s : Int)] w fun en w' => en = .returned (.tuple #[rst A n c ((p + s : Nat) : Int), .int .u64 (numI ((l.drop p).take s)), .int .i64 0]) ∧ Below w.heap.size w w' := by
  obtain ⟨ad, _, rfl, hbl, _, _⟩ := hR.at_ (show 0 < n by omega)
  have d1 : decide ((s : Int) < 1) = false := decide_eq_false (by omega)
  have d2 : decide ((8 : Int) < (s : Int)) = false := decide_eq_false (by omega)
  have wv : IntKind.i64.wrap ((n : Int) - p) = (n : Int) - p := IntWalk.i64_in _ (by omega)
  have d3 : decide ((n : Int) - p < s) = false := decide_eq_false (by omega)
  have wq : IntKind.i64.wrap ((p : Int) + s) = (p : Int) + s := IntWalk.i64_in _ (by omega)
  have e1 : (0 : Int) ≤ p := by omega
  have e2 : (p : Int) ≤ (p : Int) + s := by omega
  have e3 : (p : Int) + s ≤ c := by omega
  have e4 : (p : Int) + s ≤ n := by omega
  have e5 : ¬ c = p := by omega
  have e6 : c ≠ p := by omega
  have e7 : p ≤ c := by omega
  have e8 : p + s - p = s := by omega
  have e9 : ((p : Int) + s).toNat = p + s := by omega
  have e10 : (p : Int) ≤ c := by omega
  have hlen : ((l.drop p).take s).length = s := by rw [List.length_take, List.length_drop]; omega
  have hb2 : ∀ x ∈ (l.drop p).take s, 0 ≤ x ∧ x < 256 := fun x hx => hb x (List.mem_of_mem_drop (List.mem_of_mem_take hx))
  have hp : rdrE n (p : Int) = 0 := if_pos ⟨by omega, by omega⟩
  have hB0 := ((Below.refl w.heap.size w).alloc (Nat.le_refl _) (.cells #[.slice (some ad) n c, .int .i64 (p : Int)] 39)).alloc (by rw [World.size_alloc]; omega) (.cells #[.slice none 0 0, .int .i64 0] 39)
  have hx0 := (Blk.new w 39 #[.slice (some ad) n c, .int .i64 (p : Int)]).alloc (.cells #[.slice none 0 0, .int .i64 0] 39)
  have hr0 := Blk.new (w.alloc (.cells #[.slice (some ad) n c, .int .i64 (p : Int)] 39)) 39 #[.slice none 0 0, .int .i64 0]
  rw [World.size_alloc] at hr0
  have hmy := fun (w : World) => rmay34 (some ad) n c (p : Int) w
  rw [hp] at hmy
  go_enter Try.func16, Try.ntmps16
  go_wp2_with fail
  refine (hmy _).mono ?_
  rintro en w1 ⟨rfl, hb1⟩
  have hB1 := hB0.trans (hb1.mono hB0.size)
  have hx1 := hx0.below hb1 hx0.lt
  have hr1 := hr0.below hb1 hr0.lt
  have hP := (hR.below hB1).part (k := p) (s := s) hn hps h1
  have ho := rof (some (ad.add p)) s (c - p) w.heap.size _ hlen h8 hb2 w1.drew hP
  clear hb1 hx0 hr0 hB0 hmy hp
  have x0 := hx1.cell 0
  have x1 := hx1.cell 1
  clear hn hb hR
  go_wp2_with fail
  refine wp_region_held_drew (S := (fun w' => w'.cell? ⟨w.heap.size, 0, none⟩ = some (.slice (some ad) n c) ∧ w'.cell? ⟨w.heap.size, 1, none⟩ = some (.int .i64 (p : Int)))) (by kernel_rfl) (⟨x0, x1⟩) (fun hHeld => ?_)
  refine wpAnyH_take (i := 0) (v := ?_) rfl (by kernel_rfl) (by kernel_rfl) (by kernel_rfl) (fun _ _ _ h => h) (Or.inl ⟨by rfl, ?_⟩) (by assumption) ?_
  rotate_left
  · (intro w hSw; (try dsimp only at hSw); go_simp; (try with_reducible rfl))
  (try simp only [Act.put, List.setIfInBounds_toArray, List.set_cons_zero, List.set_cons_succ])
  refine wpAnyH_take (i := 1) (v := ?_) rfl (by kernel_rfl) (by kernel_rfl) (by kernel_rfl) (fun _ _ _ h => h) (Or.inl ⟨by rfl, ?_⟩) (by assumption) ?_
  rotate_left
  · (intro w hSw; (try dsimp only at hSw); go_simp; (try with_reducible rfl))
  (try simp only [Act.put, List.setIfInBounds_toArray, List.set_cons_zero, List.set_cons_succ])
  refine wpAnyH_take (i := 2) (v := ?_) rfl (by kernel_rfl) (by kernel_rfl) (by kernel_rfl) (fun _ _ _ h => h) (Or.inl ⟨by rfl, ?_⟩) (by assumption) ?_
  rotate_left
  · (intro w hSw; (try dsimp only at hSw); go_simp; (try with_reducible rfl))
  (try simp only [Act.put, List.setIfInBounds_toArray, List.set_cons_zero, List.set_cons_succ])
  refine wpAnyH_take (i := 3) (v := ?_) rfl (by kernel_rfl) (by kernel_rfl) (by kernel_rfl) (fun _ _ _ h => h) (Or.inl ⟨by rfl, ?_⟩) (by assumption) ?_
  rotate_left
  · (intro w hSw; (try dsimp only at hSw); go_simp; (try with_reducible rfl))
  (try simp only [Act.put, List.setIfInBounds_toArray, List.set_cons_zero, List.set_cons_succ])
  refine wpAnyH_take (i := 4) (v := ?_) rfl (by kernel_rfl) (by kernel_rfl) (by kernel_rfl) (fun _ _ _ h => h) (Or.inl ⟨by rfl, ?_⟩) (by assumption) ?_
  rotate_left
  · (intro w hSw; (try dsimp only at hSw); go_simp; (try with_reducible rfl))
  (try simp only [Act.put, List.setIfInBounds_toArray, List.set_cons_zero, List.set_cons_succ])
  refine wpAnyH_take (i := 5) (v := ?_) rfl (by kernel_rfl) (by kernel_rfl) (by kernel_rfl) (fun _ _ _ h => h) (Or.inl ⟨by rfl, ?_⟩) (by assumption) ?_
  rotate_left
  · (intro w hSw; (try dsimp only at hSw); go_simp; (try with_reducible rfl))
  (try simp only [Act.put, List.setIfInBounds_toArray, List.set_cons_zero, List.set_cons_succ])
  refine wpAnyH_take (i := 6) (v := ?_) rfl (by kernel_rfl) (by kernel_rfl) (by kernel_rfl) (fun _ _ _ h => h) (Or.inl ⟨by rfl, ?_⟩) (by assumption) ?_
  rotate_left
  · (intro w hSw; (try dsimp only at hSw); go_simp; (try with_reducible rfl))
  (try simp only [Act.put, List.setIfInBounds_toArray, List.set_cons_zero, List.set_cons_succ])
  refine wpAnyH_take (i := 7) (v := ?_) rfl (by kernel_rfl) (by kernel_rfl) (by kernel_rfl) (fun _ _ _ h => h) (Or.inl ⟨by rfl, ?_⟩) (by assumption) ?_
  rotate_left
  · (intro w hSw; (try dsimp only at hSw); go_simp; (try with_reducible rfl))
  (try simp only [Act.put, List.setIfInBounds_toArray, List.set_cons_zero, List.set_cons_succ])
  refine wpAnyH_take (i := 8) (v := ?_) rfl (by kernel_rfl) (by kernel_rfl) (by kernel_rfl) (fun _ _ _ h => h) (Or.inl ⟨by rfl, ?_⟩) (by assumption) ?_
  rotate_left
  · (intro w hSw; (try dsimp only at hSw); go_simp; (try with_reducible rfl))
  (try simp only [Act.put, List.setIfInBounds_toArray, List.set_cons_zero, List.set_cons_succ])
  refine wpAnyH_take (i := 9) (v := ?_) rfl (by kernel_rfl) (by kernel_rfl) (by kernel_rfl) (fun _ _ _ h => h) (Or.inl ⟨by rfl, ?_⟩) (by assumption) ?_
  rotate_left
  · (intro w hSw; (try dsimp only at hSw); go_simp; (try with_reducible rfl))
  (try simp only [Act.put, List.setIfInBounds_toArray, List.set_cons_zero, List.set_cons_succ])
  refine wpAnyH_take (i := 10) (v := ?_) rfl (by kernel_rfl) (by kernel_rfl) (by kernel_rfl) (fun _ _ _ h => h) (Or.inl ⟨by rfl, ?_⟩) (by assumption) ?_
  rotate_left
  · (intro w hSw; (try dsimp only at hSw); go_simp; (try with_reducible rfl))
  (try simp only [Act.put, List.setIfInBounds_toArray, List.set_cons_zero, List.set_cons_succ])
  refine wpAnyH_take (i := 11) (v := ?_) rfl (by kernel_rfl) (by kernel_rfl) (by kernel_rfl) (fun _ _ _ h => h) (Or.inl ⟨by rfl, ?_⟩) (by assumption) ?_
  rotate_left
  · (intro w hSw; (try dsimp only at hSw); go_simp; (try with_reducible rfl))
  (try simp only [Act.put, List.setIfInBounds_toArray, List.set_cons_zero, List.set_cons_succ])
  refine wpAnyH_take (i := 12) (v := ?_) rfl (by kernel_rfl) (by kernel_rfl) (by kernel_rfl) (fun _ _ _ h => h) (Or.inl ⟨by rfl, ?_⟩) (by assumption) ?_
  rotate_left
  · (intro w hSw; (try dsimp only at hSw); go_simp; (try with_reducible rfl))
  (try simp only [Act.put, List.setIfInBounds_toArray, List.set_cons_zero, List.set_cons_succ])
  refine wpAnyH_take (i := 13) (v := ?_) rfl (by kernel_rfl) (by kernel_rfl) (by kernel_rfl) (fun _ _ _ h => h) (Or.inl ⟨by rfl, ?_⟩) (by assumption) ?_
  rotate_left
  · (intro w hSw; (try dsimp only at hSw); go_simp; (try with_reducible rfl))
  (try simp only [Act.put, List.setIfInBounds_toArray, List.set_cons_zero, List.set_cons_succ])
  refine wpAnyH_take (i := 14) (v := ?_) rfl (by kernel_rfl) (by kernel_rfl) (by kernel_rfl) (fun _ _ _ h => h) (Or.inl ⟨by rfl, ?_⟩) (by assumption) ?_
  rotate_left
  · (intro w hSw; (try dsimp only at hSw); go_simp; (try with_reducible rfl))
  (try simp only [Act.put, List.setIfInBounds_toArray, List.set_cons_zero, List.set_cons_succ])
  refine wpAnyH_take (i := 15) (v := ?_) rfl (by kernel_rfl) (by kernel_rfl) (by kernel_rfl) (fun _ _ _ h => h) (Or.inl ⟨by rfl, ?_⟩) (by assumption) ?_
  rotate_left
  · (intro w hSw; (try dsimp only at hSw); go_simp; (try with_reducible rfl))
  (try simp only [Act.put, List.setIfInBounds_toArray, List.set_cons_zero, List.set_cons_succ])
  refine wpAnyH_ready (rs := [16]) (by kernel_rfl) (by simp) ?_
  refine AllReadyH.cons rfl (fun K hK => ?_) AllReadyH.nil
  go_simp
  refine ho.mono ?_
  rintro en w2 ⟨rfl, rfl⟩
  go_wp2_with fail
  refine hK.out _ _ (⟨x0, x1⟩) (fun hHeld => ?_)
  clear hK K
  (try simp only [Act.put, List.setIfInBounds_toArray, List.set_cons_zero, List.set_cons_succ])
  have r0 := hr1.cell 0
  have r1 := hr1.cell 1
  have rf0 := hr1.frozen 0
  have rf1 := hr1.frozen 1
  have rlt := hr1.lt
  have hxs := (hx1.far (p := ⟨w.heap.size + 1, 0, none⟩) (by show w.heap.size ≠ w.heap.size + 1; omega) (.slice (some ad) n c)).far (p := ⟨w.heap.size + 1, 1, none⟩) (by show w.heap.size ≠ w.heap.size + 1; omega) (.int .i64 ((p : Int) + s))
  have y0 := hxs.cell 0
  have y1 := hxs.cell 1
  refine wpAnyH_ready (rs := [17]) (by kernel_rfl) (by simp) ?_
  refine AllReadyH.cons rfl (fun K hK => ?_) AllReadyH.nil
  go_simp
  refine hK.out _ _ (⟨y0, y1⟩) (fun hHeld => ?_)
  clear hK K
  (try simp only [Act.put, List.setIfInBounds_toArray, List.set_cons_zero, List.set_cons_succ])
  refine wpAnyH_ready (rs := [18]) (by kernel_rfl) (by simp) ?_
  refine AllReadyH.cons rfl (fun K hK => ?_) AllReadyH.nil
  go_simp
  refine hK.out _ _ (⟨y0, y1⟩) (fun hHeld => ?_)
  clear hK K
  (try simp only [Act.put, List.setIfInBounds_toArray, List.set_cons_zero, List.set_cons_succ])
  refine wpAnyH_ready (rs := [19]) (by kernel_rfl) (by simp) ?_
  refine AllReadyH.cons rfl (fun K hK => ?_) AllReadyH.nil
  go_simp
  refine hK.out _ _ (⟨y0, y1⟩) (fun hHeld => ?_)
  clear hK K
  (try simp only [Act.put, List.setIfInBounds_toArray, List.set_cons_zero, List.set_cons_succ])
  refine wpAnyH_done (by kernel_rfl) ?_ _
  clear hHeld
  have K := ((hr1.set_ 0 (.slice (some ad) n c)).set_ 1 (.int .i64 ((p : Int) + s))).drew
  have z0 := K.cell 0
  have z1 := K.cell 1
  simp at z0 z1
  go_wp2
  refine bodyPost_ret (v := .tuple #[rst (some ad) n c ((p + s : Nat) : Int), .int .u64 (numI ((l.drop p).take s)), .int .i64 0]) (by simp [results, Try.results16, go_sem, z0, z1]) rfl ⟨rfl, ?_⟩
  exact ((hB1.setCell (p := ⟨w.heap.size + 1, 0, none⟩) (by show w.heap.size ≤ w.heap.size + 1; omega) (.slice (some ad) n c)).setCell (p := ⟨w.heap.size + 1, 1, none⟩) (by show w.heap.size ≤ w.heap.size + 1; omega) (.int .i64 ((p : Int) + s))).drew
end Go.Proofs.Ytekeenldlkkljaa
