/- Mail: the reference's Dyad on its long road -/
import Derived.Test.YtjmhefkmpfkpbaaFY
import Derived.Deep.DeepCutAuto
import Derived.Deep.RegionHeld3
import Derived.Deep.RegionLaw
namespace Go.Proofs.Ytjmhefkmpfkpbaa
open Go.ChangeShapes Go.WideShapes Go.ChangeAt Go.RowKit
set_option linter.unusedSimpArgs false
set_option linter.unusedVariables false
theorem finfo32 : (Try.prog.info? 52).map (fun i => (i.zero, i.size, i.bytes)) = some (some (.int .u32 0), 1, 4) := by kernel_rfl
def RDPost (w : World) (A : Option Addr) (n c : Nat) (l : List Int) (p E : Int) (en : Ending) (w' : World) : Prop :=
  Below w.heap.size w w' ∧ (((E != 0) = true ∧ en = .returned (.tuple #[rst none 0 0 0, dy false none 0 0 0, .int .i64 E])) ∨
    (E = 0 ∧ ∃ Al cl, en = .returned (.tuple #[rst A n c (p + 4 + 4 * (vM l p.toNat : Int)), dy (vN l p.toNat == 1) Al (vM l p.toNat) cl (vX l p.toNat), .int .i64 0]) ∧
      w'.ownsRow w.heap.size 52 1 (.slice Al (vM l p.toNat) cl) (vM l p.toNat) (u32s (limbsOf l p.toNat (vM l p.toNat)))))
theorem num_one (l : List Int) (k : Nat) (h : k < l.length) : numI ((l.drop k).take 1) = l.getD k 0 := by
  rw [List.drop_eq_getElem_cons h, List.getD_eq_getElem?_getD, List.getElem?_eq_getElem h, List.take_succ_cons, List.take_zero]
  simp [numI]
def Cut10 (W1 : World) (b0 g : Nat) (nb : Bool) (X : Int) (k : Nat) (L : List Int) (wx : World) : Prop := ∃ Al cl, Blk wx g 24 #[.bool nb, .slice Al k cl, .int .i64 X] ∧ wx.ownsRow b0 52 1 (.slice Al k cl) k (u32s L) ∧ (Value.slice Al k cl).ownBlock ≠ some g ∧ Below b0 W1 wx
theorem cut10_step {W1 wr w4 : World} {b0 g k p : Nat} {nb : Bool} {X L : Int} {l LL : List Int} {Al A4 : Option Addr} {cl c4 : Nat} (hGk : Blk wr g 24 #[.bool nb, .slice Al k cl, .int .i64 X]) (hok : wr.ownsRow b0 52 1 (.slice Al k cl) k (u32s LL))
    (hne : (Value.slice Al k cl).ownBlock ≠ some g) (hBk : Below b0 W1 wr) (hb : b0 ≤ wr.heap.size) (hb0 : b0 ≤ g) (hg4 : ((wr.alloc (.cells #[.int .u32 L] 52)).drew).grownBy w4 (Value.slice Al k cl).ownBlock) (ho4 : w4.ownsRow b0 52 1 (.slice A4 (k + 1) c4) (k + 1) (u32s LL ++ [.int .u32 L]))
    (hv4 : (Value.slice A4 (k + 1) c4).ownBlock = (Value.slice Al k cl).ownBlock ∨ (Value.slice A4 (k + 1) c4).ownBlock = some ((wr.alloc (.cells #[.int .u32 L] 52)).drew).heap.size) (hm : limbsOf l p (k + 1) = LL ++ [L]) :
    Cut10 W1 b0 g nb X (k + 1) (limbsOf l p (k + 1)) (w4.setCell ⟨g, 1, none⟩ (.slice A4 (k + 1) c4)) := by
  have hne4 : (Value.slice A4 (k + 1) c4).ownBlock ≠ some g := by
    rcases hv4 with h | h
    · rw [h]; exact hne
    · rw [h]
      intro e
      injection e with e
      have h1 := hGk.lt
      have h2 : ((wr.alloc (.cells #[.int .u32 L] 52)).drew).heap.size = wr.heap.size + 1 := World.size_alloc _ _
      omega
  refine ⟨A4, c4, ?_, ?_, hne4, ?_⟩
  · have h := (((hGk.alloc (.cells #[.int .u32 L] 52)).drew).grown hg4 (Ne.symm hne)).set_ 1 (.slice A4 (k + 1) c4)
    simpa using h
  · rw [hm, ← u32s_snoc]
    exact own_farT ho4 hne4 _
  · refine Below.setCell (Below.grown ((hBk.alloc hb (.cells #[.int .u32 L] 52)).drew) hg4 ?_ (fun q hq => own_base hok hq)) hb0 _
    show b0 ≤ (wr.alloc _).heap.size
    rw [World.size_alloc]
    omega
def Cut6 (W1 : World) (b0 : Nat) (nb : Bool) (X : Int) (s6 : Value) (wx : World) : Prop := ∃ g, s6 = .pointer (some ⟨g, 0, none⟩) ∧ b0 ≤ g ∧ Blk wx g 24 #[.bool nb, .slice none 0 0, .int .i64 X] ∧ Below b0 W1 wx
set_option maxRecDepth 100000 in
set_option maxHeartbeats 8000000 in
theorem rdyad_go (ad : Addr) (n c p M : Nat) (l : List Int) (hn : l.length = n) (hb : ∀ b ∈ l, 0 ≤ b ∧ b < 256) (hm : n ≤ 100000) (hnc : n ≤ c) (N X : Int) (hM : l.getD (p + 3) 0 = (M : Int)) (hM8 : M < 256) (hN : l.getD p 0 = N) (hX' : vX l p = X) (E : Int) (hE : Hid ((if (decide (1 < N) || !mayD (N == 1) (limbsOf l p M) X) = true then 41 else 0) = E)) (h1 : p + 4 + 4 * M ≤ n) (w : World) (hR : Reads w w.heap.size 1 (some ad) n (u8s l)) :
    Calls Try.prog 94 #[rst (some ad) n c (p : Int)] w (RDPost w (some ad) n c l p E) := by
  have e1 : (0 : Int) ≤ p := by omega
  have e2 : (p : Int) ≤ n := by omega
  have e3 : (n : Int) ≤ c := by omega
  have e4 : (p : Int) ≤ c := by omega
  have e5 : ¬ c = p := by omega
  have e6 : c ≠ p := by omega
  have e7 : p ≤ c := by omega
  have e8 : p ≤ n := by omega
  have e9 : (3 : Int) < ((n - p : Nat) : Int) := by omega
  have e10 : 3 < n - p := by omega
  have hp : rdrE n (p : Int) = 0 := if_pos ⟨by omega, by omega⟩
  have d1 : decide (((n - p : Nat) : Int) < 4) = false := decide_eq_false (by omega)
  have d2 : ¬ n - p < 4 := by omega
  have w1' : IntKind.i64.wrap (4 * (M : Int)) = 4 * (M : Int) := IntWalk.i64_in _ (by omega)
  have w2' : IntKind.i64.wrap (4 + 4 * (M : Int)) = 4 + 4 * (M : Int) := IntWalk.i64_in _ (by omega)
  have d3 : decide (((n - p : Nat) : Int) < 4 + 4 * (M : Int)) = false := decide_eq_false (by omega)
  have hB0 := (((Below.refl w.heap.size w).alloc (Nat.le_refl _) (.cells #[.slice (some ad) n c, .int .i64 (p : Int)] 67)).alloc (by rw [World.size_alloc]; omega) (.cells #[.slice none 0 0, .int .i64 0] 67)).alloc (by rw [World.size_alloc, World.size_alloc]; omega) (.cells #[.bool false, .slice none 0 0, .int .i64 0] 24)
  have hx0 := ((Blk.new w 67 #[.slice (some ad) n c, .int .i64 (p : Int)]).alloc (.cells #[.slice none 0 0, .int .i64 0] 67)).alloc (.cells #[.bool false, .slice none 0 0, .int .i64 0] 24)
  have hr0 := (Blk.new (w.alloc (.cells #[.slice (some ad) n c, .int .i64 (p : Int)] 67)) 67 #[.slice none 0 0, .int .i64 0]).alloc (.cells #[.bool false, .slice none 0 0, .int .i64 0] 24)
  have hd0 := Blk.new ((w.alloc (.cells #[.slice (some ad) n c, .int .i64 (p : Int)] 67)).alloc (.cells #[.slice none 0 0, .int .i64 0] 67)) 24 #[.bool false, .slice none 0 0, .int .i64 0]
  rw [World.size_alloc] at hr0
  rw [World.size_alloc, World.size_alloc] at hd0
  have hmy := fun (w : World) => rmay34 (some ad) n c (p : Int) w
  rw [hp] at hmy
  go_enter Try.func94, Try.ntmps94
  go_wp2_with fail
  refine (hmy _).mono ?_
  rintro en w1 ⟨rfl, hb1⟩
  have hB1 := hB0.trans (hb1.mono hB0.size)
  have hx1 := hx0.below hb1 hx0.lt
  have hr1 := hr0.below hb1 hr0.lt
  have hd1 := hd0.below hb1 hd0.lt
  obtain ⟨ad', hA', _, cA⟩ := at_u8 hn (hR.below hB1) (show p + 3 < n by omega)
  injection hA' with hA'
  subst hA'
  rw [hM] at cA
  have cB : w1.cell? ⟨(ad.add p).block, (ad.add p).off + 3, none⟩ = some (.int .u8 (M : Int)) := by rw [show (⟨(ad.add p).block, (ad.add p).off + 3, none⟩ : Addr) = (ad.add p).add 3 from rfl, add_of_add]; exact cA
  obtain ⟨ad', hA', _, cA0⟩ := at_u8 hn (hR.below hB1) (show p < n by omega)
  injection hA' with hA'
  subst hA'
  rw [hN] at cA0
  have hX := (hR.below hB1).part (k := p + 1) (s := 2) hn (by omega) (by omega)
  have hof := fun w' h => rofT (some (ad.add (p + 1))) 2 (c - p - 1) w.heap.size ((l.drop (p + 1)).take 2) (by simp; omega) (by omega) (fun x hx => hb x (List.mem_of_mem_drop (List.mem_of_mem_take hx))) w' h
  clear cA
  clear hb1 hx0 hr0 hd0 hB0 hmy hp
  have x0 := hx1.cell 0
  have x1 := hx1.cell 1
  have r0 := hr1.cell 0
  have r1 := hr1.cell 1
  have rf0 := hr1.frozen 0
  have rf1 := hr1.frozen 1
  have rlt := hr1.lt
  have d0 := hd1.cell 0
  have d1 := hd1.cell 1
  have df0 := hd1.frozen 0
  have df1 := hd1.frozen 1
  have dlt := hd1.lt
  have d2 := hd1.cell 2
  have df2 := hd1.frozen 2
  obtain ⟨nb, hnb⟩ : ∃ nb, (N == 1) = nb := ⟨_, rfl⟩
  have hX2 : numI (List.take 2 (List.drop (p + 1) l)) = X := hX'
  have hXr := part_range hb (p + 1) 2
  rw [hX2] at hXr
  have wX : IntKind.i64.wrap X = X := IntWalk.i64_in _ (by have := hXr.1; have := hXr.2; omega)
  simp only [hX2] at hof
  have hb0 : w.heap.size + 3 ≤ w1.heap.size := hd1.lt
  have gX := Lib.hid hX'
  have gn := Lib.hid hn
  have gnb := Lib.hid hnb
  have cnb : (N == 1) = nb := hnb
  clear hX2 hX' hn hXr hnb
  go_upto_region 6 with fail
  go_cut [6] (fun s6 wx => Cut6 w1 (w.heap.size + 3) nb X s6 wx)
  case first =>
    clear hM hN hE gX gn gnb x0 x1 r0 r1 rf0 rf1 rlt d0 d1 df0 df1 dlt d2 df2 w1' w2' hb
    have s1 : (3 : Int) ≤ ((c - p : Nat) : Int) := by omega
    have s2 : (1 : Int) ≤ ((c - p : Nat) : Int) := by omega
    have s3 : ¬ (c - p = 1) := by omega
    have s4 : (0 : Int) < ((n - p : Nat) : Int) := by omega
    have s5 : 0 < n - p := by omega
    have hbz : w.heap.size ≤ w1.heap.size := by omega
    have aa : (ad.add p).add 1 = ad.add (p + 1) := add_of_add ad p 1
    go_region_held3 (fun w' => w'.cell? (ad.add p) = some (.int .u8 N)) (go_keep) (first | (go_at_call 102; refine (hof _ (by first | with_reducible exact hX.drew | with_reducible exact (hX.alloc hbz _).drew)).mono ?_; rintro en w2 ⟨rfl, rfl⟩))
    all_goals go_wp2_with fail
    all_goals go_meet
    all_goals exact ⟨w1.heap.size, rfl, hb0, (Blk.new w1 24 _).drew, ((Below.refl _ w1).alloc hb0 _).drew⟩
  case rest =>
    obtain ⟨g, rfl, hg0, hGb, hBc⟩ := hcut
    clear x0 x1 r0 r1 rf0 rf1 rlt d0 d1 df0 df1 dlt d2 df2 hof hX
    have hM' := Lib.hid hM
    have hN' := Lib.hid hN
    have cn' := Lib.hid cnb
    clear hM hN cnb gnb
    obtain ⟨i0, hi0, hz0, hz1, hz2⟩ := info_parts finfo32
    have hCc : Cut10 w1 (w.heap.size + 3) g nb X 0 (limbsOf l p 0) wc := ⟨none, 0, hGb, World.ownsRow_nil _ _ _ _, by simp [Value.ownBlock], hBc⟩
    clear hGb hBc
    go_wp2
    go_loopw [7] (fun i wr => ∃ k : Nat, k ≤ M ∧ i = .int .i64 k ∧ Cut10 w1 (w.heap.size + 3) g nb X k (limbsOf l p k) wr) (fun i _ => M - (intOf i).toNat)
    case atStart => exact ⟨0, by omega, rfl, hCc⟩
    case round =>
      clear hCc
      obtain ⟨k, hk, rfl, Al, cl, hGk, hok, hne, hBk⟩ := hrel
      have cB' : wr.cell? ⟨(ad.add p).block, (ad.add p).off + 3, none⟩ = some (.int .u8 (M : Int)) := (hBk.cell (p := ⟨(ad.add p).block, (ad.add p).off + 3, none⟩) (by show (ad.add p).block < _; rw [block_of_add]; omega)).trans cB
      by_cases hlt : k < M
      · have w3 : IntKind.i64.wrap (4 * (k : Int)) = 4 * (k : Int) := IntWalk.i64_in _ (by omega)
        have w4 : IntKind.i64.wrap (4 + 4 * (k : Int)) = 4 + 4 * (k : Int) := IntWalk.i64_in _ (by omega)
        have w5 : IntKind.i64.wrap (8 + 4 * (k : Int)) = 8 + 4 * (k : Int) := IntWalk.i64_in _ (by omega)
        have i1 : (0 : Int) ≤ 4 + 4 * (k : Int) := by omega
        have i2 : 4 + 4 * (k : Int) ≤ 8 + 4 * (k : Int) := by omega
        have i3 : 8 + 4 * (k : Int) ≤ ((c - p : Nat) : Int) := by omega
        have i4 : 4 + 4 * (k : Int) ≤ ((c - p : Nat) : Int) := by omega
        have n1 : (4 + 4 * (k : Int)).toNat = 4 + 4 * k := by omega
        have n2 : (8 + 4 * (k : Int)).toNat = 8 + 4 * k := by omega
        have n3 : 8 + 4 * k - (4 + 4 * k) = 4 := by omega
        have n4 : ¬ (c - p = 4 + 4 * k) := by omega
        have hX := (hR.below (hB1.trans (hBk.mono (by omega)))).part (k := p + (4 + 4 * k)) (s := 4) gn.out (by omega) (by omega)
        have hof := fun w' h => rofT (some (ad.add (p + (4 + 4 * k)))) 4 (c - p - (4 + 4 * k)) w.heap.size ((l.drop (p + (4 + 4 * k))).take 4) (by have := gn.out; simp; omega) (by omega) (fun x hx => hb x (List.mem_of_mem_drop (List.mem_of_mem_take hx))) w' h
        have hLr := part_range hb (p + (4 + 4 * k)) 4
        obtain ⟨L, hL⟩ : ∃ L, numI ((l.drop (p + (4 + 4 * k))).take 4) = L := ⟨_, rfl⟩
        have hmore : limbsOf l p (k + 1) = limbsOf l p k ++ [L] := by rw [limbs_more, ← hL]; unfold limbAt; rw [show p + 4 + 4 * k = p + (4 + 4 * k) by omega]
        simp only [hL] at hof hLr
        have wL : IntKind.u32.wrap L = L := IntWalk.u32_in _ (by have := hLr.1; have := hLr.2; omega)
        have q1 := hGk.cell 1
        have qlt := hGk.lt
        have qn := World.new_ne wr ⟨g, 1, none⟩ q1
        have hbz : w.heap.size ≤ wr.heap.size := by omega
        have hMo := Lib.hid hmore
        have ue : ∀ u ∈ [Value.int .u32 L], u.oneCell' = true := by intro u hu; simp at hu; subst hu; rfl
        clear hL hmore hLr
        go_upto_region 10 with fail
        have aa : (ad.add p).add (4 + 4 * k) = ad.add (p + (4 + 4 * k)) := add_of_add ad p (4 + 4 * k)
        have hbz3 : w.heap.size + 3 ≤ ((wr.alloc (.cells #[.int .u32 L] 52)).drew).heap.size := by show _ ≤ (wr.alloc _).heap.size; rw [World.size_alloc]; have := hBk.size; omega
        refine wp_region_held_drew (S := (fun _ => True)) (by kernel_rfl) (trivial) (fun hHeld => ?_)
        refine wpAnyH_take (i := 0) (v := ?_) rfl (by kernel_rfl) (by kernel_rfl) (by kernel_rfl) (fun _ _ _ h => h) (Or.inl ⟨by rfl, ?_⟩) (by assumption) ?_
        rotate_left
        · (intro w hSw; (try dsimp only at hSw); go_simp; (try with_reducible rfl))
        (try simp only [Act.put, lsA, lsZ, lsS])
        refine wpAnyH_take (i := 2) (v := ?_) rfl (by kernel_rfl) (by kernel_rfl) (by kernel_rfl) (fun _ _ _ h => h) (Or.inl ⟨by rfl, ?_⟩) (by assumption) ?_
        rotate_left
        · (intro w hSw; (try dsimp only at hSw); go_simp; (try with_reducible rfl))
        (try simp only [Act.put, lsA, lsZ, lsS])
        refine wpAnyH_take (i := 3) (v := ?_) rfl (by kernel_rfl) (by kernel_rfl) (by kernel_rfl) (fun _ _ _ h => h) (Or.inl ⟨by rfl, ?_⟩) (by assumption) ?_
        rotate_left
        · (intro w hSw; (try dsimp only at hSw); go_simp; (try with_reducible rfl))
        (try simp only [Act.put, lsA, lsZ, lsS])
        refine wpAnyH_take (i := 4) (v := ?_) rfl (by kernel_rfl) (by kernel_rfl) (by kernel_rfl) (fun _ _ _ h => h) (Or.inl ⟨by rfl, ?_⟩) (by assumption) ?_
        rotate_left
        · (intro w hSw; (try dsimp only at hSw); go_simp; (try with_reducible rfl))
        (try simp only [Act.put, lsA, lsZ, lsS])
        refine wpAnyH_take (i := 5) (v := ?_) rfl (by kernel_rfl) (by kernel_rfl) (by kernel_rfl) (fun _ _ _ h => h) (Or.inl ⟨by rfl, ?_⟩) (by assumption) ?_
        rotate_left
        · (intro w hSw; (try dsimp only at hSw); go_simp; (try with_reducible rfl))
        (try simp only [Act.put, lsA, lsZ, lsS])
        refine wpAnyH_take (i := 6) (v := ?_) rfl (by kernel_rfl) (by kernel_rfl) (by kernel_rfl) (fun _ _ _ h => h) (Or.inl ⟨by rfl, ?_⟩) (by assumption) ?_
        rotate_left
        · (intro w hSw; (try dsimp only at hSw); go_simp; (try with_reducible rfl))
        (try simp only [Act.put, lsA, lsZ, lsS])
        refine wpAnyH_take (i := 7) (v := ?_) rfl (by kernel_rfl) (by kernel_rfl) (by kernel_rfl) (fun _ _ _ h => h) (Or.inl ⟨by rfl, ?_⟩) (by assumption) ?_
        rotate_left
        · (intro w hSw; (try dsimp only at hSw); go_simp; (try with_reducible rfl))
        (try simp only [Act.put, lsA, lsZ, lsS])
        refine wpAnyH_take (i := 8) (v := ?_) rfl (by kernel_rfl) (by kernel_rfl) (by kernel_rfl) (fun _ _ _ h => h) (Or.inl ⟨by rfl, ?_⟩) (by assumption) ?_
        rotate_left
        · (intro w hSw; (try dsimp only at hSw); go_simp; (try with_reducible rfl))
        (try simp only [Act.put, lsA, lsZ, lsS])
        refine wpAnyH_take (i := 9) (v := ?_) rfl (by kernel_rfl) (by kernel_rfl) (by kernel_rfl) (fun _ _ _ h => h) (Or.inl ⟨by rfl, ?_⟩) (by assumption) ?_
        rotate_left
        · (intro w hSw; (try dsimp only at hSw); go_simp; (try with_reducible rfl))
        (try simp only [Act.put, lsA, lsZ, lsS])
        refine wpAnyH_ready (rs := [1, 10]) (by kernel_rfl) (by simp) ?_
        refine AllReadyH.cons rfl (fun K hK => ?_) (AllReadyH.cons rfl (fun K hK => ?_) AllReadyH.nil)
        · go_simp
          refine hK.out _ _ (trivial) (fun hHeld => ?_)
          clear hK K
          (try simp only [Act.put, lsA, lsZ, lsS])
          refine wpAnyH_ready (rs := [10]) (by kernel_rfl) (by simp) ?_
          refine AllReadyH.cons rfl (fun K hK => ?_) AllReadyH.nil
          go_simp
          go_at_call 102
          refine (hof _ (by first | with_reducible exact hX.drew | with_reducible exact (hX.alloc hbz _).drew)).mono ?_
          rintro en w2 ⟨rfl, rfl⟩
          go_wp2_with fail
          refine hK.out _ _ (trivial) (fun hHeld => ?_)
          clear hK K
          (try simp only [Act.put, lsA, lsZ, lsS])
          refine wpAnyH_take (i := 11) (v := ?_) rfl (by kernel_rfl) (by kernel_rfl) (by kernel_rfl) (fun _ _ _ h => h) (Or.inl ⟨by rfl, ?_⟩) (by assumption) ?_
          rotate_left
          · (intro w hSw; (try dsimp only at hSw); go_simp; (try with_reducible rfl))
          (try simp only [Act.put, lsA, lsZ, lsS])
          refine wpAnyH_ready (rs := [12]) (by kernel_rfl) (by simp) ?_
          refine AllReadyH.cons rfl (fun K hK => ?_) AllReadyH.nil
          go_simp
          refine hK.out _ _ (trivial) (fun hHeld => ?_)
          clear hK K
          (try simp only [Act.put, lsA, lsZ, lsS])
          refine wpAnyH_ready (rs := [13]) (by kernel_rfl) (by simp) ?_
          refine AllReadyH.cons rfl (fun K hK => ?_) AllReadyH.nil
          refine step_append_any _ rfl (.tmp 52) (.tmp 63) _ rfl (w.heap.size + 3) 52 i0 _ 1 4 Try.underlying22 hi0 hz0 hz1 hz2 rfl (by omega) (.slice Al k cl) k (u32s (limbsOf l p k)) rfl (hok.alloc _) (wr.heap.size + 1) _ 1 1 [.int .u32 L] rfl (reads_one _ _ _ 1 rfl) ue (by unfold maxLen; omega) (by omega) hbz3 ?_
          intro v4 w4 ho4 hg4 hv4
          obtain ⟨A4, c4, rfl, hnc4, hr4⟩ := own_slice ho4
          have hK4 := ((hGk.alloc (.cells #[.int .u32 L] 52)).drew).grown hg4 (Ne.symm hne)
          have z1 := hK4.cell 1
          have zf := hK4.frozen 1
          have zlt := hK4.lt
          refine hK.out _ _ (trivial) (fun hHeld => ?_)
          clear hK K
          (try simp only [Act.put, lsA, lsZ, lsS])
          refine wpAnyH_take (i := 14) (v := ?_) rfl (by kernel_rfl) (by kernel_rfl) (by kernel_rfl) (fun _ _ _ h => h) (Or.inl ⟨by rfl, ?_⟩) (by assumption) ?_
          rotate_left
          · (intro w hSw; (try dsimp only at hSw); go_simp; (try with_reducible rfl))
          (try simp only [Act.put, lsA, lsZ, lsS])
          refine wpAnyH_ready (rs := [15]) (by kernel_rfl) (by simp) ?_
          refine AllReadyH.cons rfl (fun K hK => ?_) AllReadyH.nil
          go_simp
          refine hK.out _ _ (trivial) (fun hHeld => ?_)
          clear hK K
          (try simp only [Act.put, lsA, lsZ, lsS])
          refine wpAnyH_done (by kernel_rfl) ?_ _
          have hC4 := cut10_step hGk hok hne hBk (by omega) hg0 hg4 ho4 hv4 hMo.out
          clear hGk hok hne hg4 ho4 hv4 hK4 z1 zf zlt hr4
          go_wp2
          go_roundw
          case rel => exact ⟨k + 1, by omega, by go_num, hC4⟩
          case measure => simp [intOf] <;> omega
        · go_simp
          go_at_call 102
          refine (hof _ (by first | with_reducible exact hX.drew | with_reducible exact (hX.alloc hbz _).drew)).mono ?_
          rintro en w2 ⟨rfl, rfl⟩
          go_wp2_with fail
          refine hK.out _ _ (trivial) (fun hHeld => ?_)
          clear hK K
          (try simp only [Act.put, lsA, lsZ, lsS])
          refine wpAnyH_take (i := 11) (v := ?_) rfl (by kernel_rfl) (by kernel_rfl) (by kernel_rfl) (fun _ _ _ h => h) (Or.inl ⟨by rfl, ?_⟩) (by assumption) ?_
          rotate_left
          · (intro w hSw; (try dsimp only at hSw); go_simp; (try with_reducible rfl))
          (try simp only [Act.put, lsA, lsZ, lsS])
          refine wpAnyH_ready (rs := [1, 12]) (by kernel_rfl) (by simp) ?_
          refine AllReadyH.cons rfl (fun K hK => ?_) (AllReadyH.cons rfl (fun K hK => ?_) AllReadyH.nil)
          · go_simp
            refine hK.out _ _ (trivial) (fun hHeld => ?_)
            clear hK K
            (try simp only [Act.put, lsA, lsZ, lsS])
            refine wpAnyH_ready (rs := [12]) (by kernel_rfl) (by simp) ?_
            refine AllReadyH.cons rfl (fun K hK => ?_) AllReadyH.nil
            go_simp
            refine hK.out _ _ (trivial) (fun hHeld => ?_)
            clear hK K
            (try simp only [Act.put, lsA, lsZ, lsS])
            refine wpAnyH_ready (rs := [13]) (by kernel_rfl) (by simp) ?_
            refine AllReadyH.cons rfl (fun K hK => ?_) AllReadyH.nil
            refine step_append_any _ rfl (.tmp 52) (.tmp 63) _ rfl (w.heap.size + 3) 52 i0 _ 1 4 Try.underlying22 hi0 hz0 hz1 hz2 rfl (by omega) (.slice Al k cl) k (u32s (limbsOf l p k)) rfl (hok.alloc _) (wr.heap.size + 1) _ 1 1 [.int .u32 L] rfl (reads_one _ _ _ 1 rfl) ue (by unfold maxLen; omega) (by omega) hbz3 ?_
            intro v4 w4 ho4 hg4 hv4
            obtain ⟨A4, c4, rfl, hnc4, hr4⟩ := own_slice ho4
            have hK4 := ((hGk.alloc (.cells #[.int .u32 L] 52)).drew).grown hg4 (Ne.symm hne)
            have z1 := hK4.cell 1
            have zf := hK4.frozen 1
            have zlt := hK4.lt
            refine hK.out _ _ (trivial) (fun hHeld => ?_)
            clear hK K
            (try simp only [Act.put, lsA, lsZ, lsS])
            refine wpAnyH_take (i := 14) (v := ?_) rfl (by kernel_rfl) (by kernel_rfl) (by kernel_rfl) (fun _ _ _ h => h) (Or.inl ⟨by rfl, ?_⟩) (by assumption) ?_
            rotate_left
            · (intro w hSw; (try dsimp only at hSw); go_simp; (try with_reducible rfl))
            (try simp only [Act.put, lsA, lsZ, lsS])
            refine wpAnyH_ready (rs := [15]) (by kernel_rfl) (by simp) ?_
            refine AllReadyH.cons rfl (fun K hK => ?_) AllReadyH.nil
            go_simp
            refine hK.out _ _ (trivial) (fun hHeld => ?_)
            clear hK K
            (try simp only [Act.put, lsA, lsZ, lsS])
            refine wpAnyH_done (by kernel_rfl) ?_ _
            have hC4 := cut10_step hGk hok hne hBk (by omega) hg0 hg4 ho4 hv4 hMo.out
            clear hGk hok hne hg4 ho4 hv4 hK4 z1 zf zlt hr4
            go_wp2
            go_roundw
            case rel => exact ⟨k + 1, by omega, by go_num, hC4⟩
            case measure => simp [intOf] <;> omega
          · go_simp
            refine hK.out _ _ (trivial) (fun hHeld => ?_)
            clear hK K
            (try simp only [Act.put, lsA, lsZ, lsS])
            refine wpAnyH_ready (rs := [1]) (by kernel_rfl) (by simp) ?_
            refine AllReadyH.cons rfl (fun K hK => ?_) AllReadyH.nil
            go_simp
            refine hK.out _ _ (trivial) (fun hHeld => ?_)
            clear hK K
            (try simp only [Act.put, lsA, lsZ, lsS])
            refine wpAnyH_ready (rs := [13]) (by kernel_rfl) (by simp) ?_
            refine AllReadyH.cons rfl (fun K hK => ?_) AllReadyH.nil
            refine step_append_any _ rfl (.tmp 52) (.tmp 63) _ rfl (w.heap.size + 3) 52 i0 _ 1 4 Try.underlying22 hi0 hz0 hz1 hz2 rfl (by omega) (.slice Al k cl) k (u32s (limbsOf l p k)) rfl (hok.alloc _) (wr.heap.size + 1) _ 1 1 [.int .u32 L] rfl (reads_one _ _ _ 1 rfl) ue (by unfold maxLen; omega) (by omega) hbz3 ?_
            intro v4 w4 ho4 hg4 hv4
            obtain ⟨A4, c4, rfl, hnc4, hr4⟩ := own_slice ho4
            have hK4 := ((hGk.alloc (.cells #[.int .u32 L] 52)).drew).grown hg4 (Ne.symm hne)
            have z1 := hK4.cell 1
            have zf := hK4.frozen 1
            have zlt := hK4.lt
            refine hK.out _ _ (trivial) (fun hHeld => ?_)
            clear hK K
            (try simp only [Act.put, lsA, lsZ, lsS])
            refine wpAnyH_take (i := 14) (v := ?_) rfl (by kernel_rfl) (by kernel_rfl) (by kernel_rfl) (fun _ _ _ h => h) (Or.inl ⟨by rfl, ?_⟩) (by assumption) ?_
            rotate_left
            · (intro w hSw; (try dsimp only at hSw); go_simp; (try with_reducible rfl))
            (try simp only [Act.put, lsA, lsZ, lsS])
            refine wpAnyH_ready (rs := [15]) (by kernel_rfl) (by simp) ?_
            refine AllReadyH.cons rfl (fun K hK => ?_) AllReadyH.nil
            go_simp
            refine hK.out _ _ (trivial) (fun hHeld => ?_)
            clear hK K
            (try simp only [Act.put, lsA, lsZ, lsS])
            refine wpAnyH_done (by kernel_rfl) ?_ _
            have hC4 := cut10_step hGk hok hne hBk (by omega) hg0 hg4 ho4 hv4 hMo.out
            clear hGk hok hne hg4 ho4 hv4 hK4 z1 zf zlt hr4
            go_wp2
            go_roundw
            case rel => exact ⟨k + 1, by omega, by go_num, hC4⟩
            case measure => simp [intOf] <;> omega
      · obtain rfl : k = M := by omega
        have cA' : wr.cell? (ad.add p) = some (.int .u8 N) := (hBk.cell (p := ad.add p) (by rw [block_of_add]; omega)).trans cA0
        have q0 := hGk.cell 0
        have q1 := hGk.cell 1
        have q2 := hGk.cell 2
        have qlt := hGk.lt
        have hx2 := hx1.below hBk (by omega)
        have hr2 := hr1.below hBk (by omega)
        have hd2 := hd1.below hBk (by omega)
        have hBw := hB1.trans (hBk.mono (by omega))
        have hsz := hBk.size
        have s4 : (0 : Int) < ((n - p : Nat) : Int) := by omega
        have s5 : 0 < n - p := by omega
        obtain ⟨LL, hLL⟩ : ∃ LL, limbsOf l p k = LL := ⟨_, rfl⟩
        have hlen : LL.length = k := by rw [← hLL]; exact limbs_len l p k
        have hnn : ∀ x ∈ LL, 0 ≤ x := by
          rw [← hLL]
          intro x hx
          unfold limbsOf at hx
          simp only [List.mem_map] at hx
          obtain ⟨j, _, rfl⟩ := hx
          exact (part_range hb _ 4).1
        have hD := fun w' h => dmay_anyT nb Al k cl LL hlen hnn X w' h
        rw [hLL] at hok hE
        have hnb := cn'.out
        have hvN : vN l p = N := by rw [← hN'.out]; unfold vN; exact num_one l p (by rw [gn.out]; omega)
        have hvM : vM l p = k := by unfold vM; rw [num_one l (p + 3) (by rw [gn.out]; omega), hM'.out]; rfl
        rw [hnb] at hE
        have hRk := (Reads.of_own hok)
        have gLL := Lib.hid hLL
        have gvN := Lib.hid hvN
        have gvM := Lib.hid hvM
        have glen := Lib.hid hlen
        clear hLL hnb hvN hvM hlen hnn hr1 hd1 hx1 cB cA0 hB1
        have r0 := hr2.cell 0
        have r1 := hr2.cell 1
        have rf0 := hr2.frozen 0
        have rf1 := hr2.frozen 1
        have rlt := hr2.lt
        have d0 := hd2.cell 0
        have d1 := hd2.cell 1
        have d2 := hd2.cell 2
        have df0 := hd2.frozen 0
        have df1 := hd2.frozen 1
        have df2 := hd2.frozen 2
        have dlt := hd2.lt
        have x0 := hx2.cell 0
        have x1 := hx2.cell 1
        by_cases hN1 : 1 < N
        · have t1 : decide (1 < N) = true := decide_eq_true hN1
          have hE' : E = 41 := by rw [← hE.out, t1]; rfl
          subst hE'
          clear hE hD
          go_wp2
          have K := ((((hr2.set_ 0 (.slice none 0 0)).set_ 1 (.int .i64 0)).far (p := ⟨w.heap.size + 1 + 1, 0, none⟩) (by simp) (.bool false)).far (p := ⟨w.heap.size + 1 + 1, 1, none⟩) (by simp) (.slice none 0 0)).far (p := ⟨w.heap.size + 1 + 1, 2, none⟩) (by simp) (.int .i64 0)
          have LLk := ((((hd2.far (p := ⟨w.heap.size + 1, 0, none⟩) (by simp) (.slice none 0 0)).far (p := ⟨w.heap.size + 1, 1, none⟩) (by simp) (.int .i64 0)).set_ 0 (.bool false)).set_ 1 (.slice none 0 0)).set_ 2 (.int .i64 0)
          have z0 := K.cell 0
          have z1 := K.cell 1
          have y0 := LLk.cell 0
          have y1 := LLk.cell 1
          have y2 := LLk.cell 2
          simp at z0 z1 y0 y1 y2
          refine bodyPost_ret (v := .tuple #[rst none 0 0 0, dy false none 0 0 0, .int .i64 41]) (by simp [results, Try.results18, go_sem, z0, z1, y0, y1, y2]) rfl ⟨?_, .inl ⟨rfl, rfl⟩⟩
          exact ((((hBw.setCell (p := ⟨w.heap.size + 1, 0, none⟩) (by show w.heap.size ≤ w.heap.size + 1; omega) _).setCell (p := ⟨w.heap.size + 1, 1, none⟩) (by show w.heap.size ≤ w.heap.size + 1; omega) _).setCell (p := ⟨w.heap.size + 1 + 1, 0, none⟩) (by show w.heap.size ≤ w.heap.size + 1 + 1; omega) _).setCell (p := ⟨w.heap.size + 1 + 1, 1, none⟩) (by show w.heap.size ≤ w.heap.size + 1 + 1; omega) _).setCell (p := ⟨w.heap.size + 1 + 1, 2, none⟩) (by show w.heap.size ≤ w.heap.size + 1 + 1; omega) _
        · have t1 : decide (1 < N) = false := decide_eq_false hN1
          by_cases hmd : mayD nb LL X = true
          · have hE' : E = 0 := by rw [← hE.out, t1, hmd]; rfl
            subst hE'
            simp only [hmd, if_true] at hD
            clear hE
            have hadw : (ad.add p).block < wr.heap.size := by rw [block_of_add]; omega
            have z6 : IntKind.i64.wrap (k : Int) = (k : Int) := IntWalk.i64_in _ (by omega)
            have ng1 : ¬ (g = w.heap.size + 1) := by omega
            have ng2 : ¬ (g = w.heap.size + 1 + 1) := by omega
            have na1 : ¬ ((ad.add p).block = w.heap.size + 1) := by rw [block_of_add]; omega
            have na2 : ¬ ((ad.add p).block = w.heap.size + 1 + 1) := by rw [block_of_add]; omega
            have ng1' : ¬ (w.heap.size + 1 = g) := by omega
            have ng2' : ¬ (w.heap.size + 1 + 1 = g) := by omega
            have na1' : ¬ (w.heap.size + 1 = (ad.add p).block) := by rw [block_of_add]; omega
            have na2' : ¬ (w.heap.size + 1 + 1 = (ad.add p).block) := by rw [block_of_add]; omega
            have nx2 : ¬ (w.heap.size = w.heap.size + 1 + 1) := by omega
            have nx2' : ¬ (w.heap.size + 1 + 1 = w.heap.size) := by omega
            have nx1 : ¬ (w.heap.size = w.heap.size + 1) := by omega
            have z3 : IntKind.i64.wrap ((p : Int) + 4) = (p : Int) + 4 := IntWalk.i64_in _ (by omega)
            have z4 : IntKind.i64.wrap (4 * (k : Int)) = 4 * (k : Int) := IntWalk.i64_in _ (by omega)
            have z5 : IntKind.i64.wrap ((p : Int) + 4 + 4 * (k : Int)) = (p : Int) + 4 + 4 * (k : Int) := IntWalk.i64_in _ (by omega)
            go_wp2_with (go_at_call 86; refine (hD _ hRk).mono ?_; rintro en w2 ⟨rfl, hb2⟩; have hG3 := hGk.below hb2 qlt; have hx3 := hx2.below hb2 hx2.lt; have ho3 := own_below hok hb2; have cB3 := (hb2.cell (p := ⟨(ad.add p).block, (ad.add p).off + 3, none⟩) hadw).trans cB'; have hr3 := hr2.below hb2 hr2.lt; have hd3 := hd2.below hb2 hd2.lt; have hBw3 := hBw.trans (hb2.mono hBw.size); clear r0 r1 rf0 rf1 rlt d0 d1 d2 df0 df1 df2 dlt x0 x1 q0 q1 q2 qlt; have r0 := hr3.cell 0; have r1 := hr3.cell 1; have rf0 := hr3.frozen 0; have rf1 := hr3.frozen 1; have rlt := hr3.lt; have d0 := hd3.cell 0; have d1 := hd3.cell 1; have d2 := hd3.cell 2; have df0 := hd3.frozen 0; have df1 := hd3.frozen 1; have df2 := hd3.frozen 2; have dlt := hd3.lt; have x0 := hx3.cell 0; have x1 := hx3.cell 1; have q0 := hG3.cell 0; have q1 := hG3.cell 1; have q2 := hG3.cell 2)
            clear hGk hok hRk hx2 hr2 hd2 hb2 hBk hD cB' cA'
            go_region_held3 (fun w' => w'.cell? ⟨w.heap.size, 0, none⟩ = some (.slice (some ad) n c) ∧ w'.cell? ⟨w.heap.size, 1, none⟩ = some (.int .i64 (p : Int)) ∧ w'.cell? ⟨(ad.add p).block, (ad.add p).off + 3, none⟩ = some (.int .u8 (k : Int)) ∧ w'.cell? ⟨g, 0, none⟩ = some (.bool nb) ∧ w'.cell? ⟨g, 1, none⟩ = some (.slice Al k cl) ∧ w'.cell? ⟨g, 2, none⟩ = some (.int .i64 X)) (go_keep) (fail)
            go_wp2
            have K := ((((hr3.set_ 0 (.slice (some ad) n c)).set_ 1 (.int .i64 ((p : Int) + 4 + 4 * (k : Int)))).far (p := ⟨w.heap.size + 1 + 1, 0, none⟩) (by simp) (.bool nb)).far (p := ⟨w.heap.size + 1 + 1, 1, none⟩) (by simp) (.slice Al k cl)).far (p := ⟨w.heap.size + 1 + 1, 2, none⟩) (by simp) (.int .i64 X)
            have LLk := ((((hd3.far (p := ⟨w.heap.size + 1, 0, none⟩) (by simp) (.slice (some ad) n c)).far (p := ⟨w.heap.size + 1, 1, none⟩) (by simp) (.int .i64 ((p : Int) + 4 + 4 * (k : Int)))).set_ 0 (.bool nb)).set_ 1 (.slice Al k cl)).set_ 2 (.int .i64 X)
            have Q0 := ((((own_set ho3 (p := ⟨w.heap.size + 1, 0, none⟩) (by show w.heap.size + 1 < _; omega) (.slice (some ad) n c))|> fun h => own_set h (p := ⟨w.heap.size + 1, 1, none⟩) (by show w.heap.size + 1 < _; omega) (.int .i64 ((p : Int) + 4 + 4 * (k : Int)))) |> fun h => own_set h (p := ⟨w.heap.size + 1 + 1, 0, none⟩) (by show w.heap.size + 1 + 1 < _; omega) (.bool nb)) |> fun h => own_set h (p := ⟨w.heap.size + 1 + 1, 1, none⟩) (by show w.heap.size + 1 + 1 < _; omega) (.slice Al k cl)) |> fun h => own_set h (p := ⟨w.heap.size + 1 + 1, 2, none⟩) (by show w.heap.size + 1 + 1 < _; omega) (.int .i64 X)
            have z0 := K.cell 0
            have z1 := K.cell 1
            have y0 := LLk.cell 0
            have y1 := LLk.cell 1
            have y2 := LLk.cell 2
            simp at z0 z1 y0 y1 y2
            refine bodyPost_ret (v := .tuple #[rst (some ad) n c ((p : Int) + 4 + 4 * (k : Int)), dy nb Al k cl X, .int .i64 0]) (by simp [results, Try.results18, go_sem, z0, z1, y0, y1, y2]) rfl ⟨?_, .inr ⟨rfl, Al, cl, ?_, ?_⟩⟩
            · exact Below.drew (((((hBw3.setCell (p := ⟨w.heap.size + 1, 0, none⟩) (by show w.heap.size ≤ w.heap.size + 1; omega) _).setCell (p := ⟨w.heap.size + 1, 1, none⟩) (by show w.heap.size ≤ w.heap.size + 1; omega) _).setCell (p := ⟨w.heap.size + 1 + 1, 0, none⟩) (by show w.heap.size ≤ w.heap.size + 1 + 1; omega) _).setCell (p := ⟨w.heap.size + 1 + 1, 1, none⟩) (by show w.heap.size ≤ w.heap.size + 1 + 1; omega) _).setCell (p := ⟨w.heap.size + 1 + 1, 2, none⟩) (by show w.heap.size ≤ w.heap.size + 1 + 1; omega) _)
            · rw [Int.toNat_natCast, gvM.out, gvN.out, gX.out, cn'.out]
            · rw [Int.toNat_natCast, gvM.out, gLL.out]
              exact ⟨Q0.1, Q0.2.imp id (fun ⟨g', c', cur', e1, h1, r⟩ => ⟨g', c', cur', e1, Nat.le_trans (by omega) h1, r⟩)⟩
          · have hmd' : mayD nb LL X = false := by simpa using hmd
            have hE' : E = 41 := by rw [← hE.out, t1, hmd']; rfl
            subst hE'
            simp only [hmd', if_false] at hD
            clear hE
            go_wp2_with (go_at_call 86; refine (hD _ hRk).mono ?_; rintro en w2 ⟨rfl, hb2⟩; have hr3 := hr2.below hb2 hr2.lt; have hd3 := hd2.below hb2 hd2.lt; have hBw3 := hBw.trans (hb2.mono hBw.size); clear r0 r1 rf0 rf1 rlt d0 d1 d2 df0 df1 df2 dlt x0 x1 q0 q1 q2 qlt; have r0 := hr3.cell 0; have r1 := hr3.cell 1; have rf0 := hr3.frozen 0; have rf1 := hr3.frozen 1; have rlt := hr3.lt; have d0 := hd3.cell 0; have d1 := hd3.cell 1; have d2 := hd3.cell 2; have df0 := hd3.frozen 0; have df1 := hd3.frozen 1; have df2 := hd3.frozen 2; have dlt := hd3.lt)
            have K := ((((hr3.set_ 0 (.slice none 0 0)).set_ 1 (.int .i64 0)).far (p := ⟨w.heap.size + 1 + 1, 0, none⟩) (by simp) (.bool false)).far (p := ⟨w.heap.size + 1 + 1, 1, none⟩) (by simp) (.slice none 0 0)).far (p := ⟨w.heap.size + 1 + 1, 2, none⟩) (by simp) (.int .i64 0)
            have LLk := ((((hd3.far (p := ⟨w.heap.size + 1, 0, none⟩) (by simp) (.slice none 0 0)).far (p := ⟨w.heap.size + 1, 1, none⟩) (by simp) (.int .i64 0)).set_ 0 (.bool false)).set_ 1 (.slice none 0 0)).set_ 2 (.int .i64 0)
            have z0 := K.cell 0
            have z1 := K.cell 1
            have y0 := LLk.cell 0
            have y1 := LLk.cell 1
            have y2 := LLk.cell 2
            simp at z0 z1 y0 y1 y2
            refine bodyPost_ret (v := .tuple #[rst none 0 0 0, dy false none 0 0 0, .int .i64 41]) (by simp [results, Try.results18, go_sem, z0, z1, y0, y1, y2]) rfl ⟨?_, .inl ⟨rfl, rfl⟩⟩
            exact ((((hBw3.setCell (p := ⟨w.heap.size + 1, 0, none⟩) (by show w.heap.size ≤ w.heap.size + 1; omega) _).setCell (p := ⟨w.heap.size + 1, 1, none⟩) (by show w.heap.size ≤ w.heap.size + 1; omega) _).setCell (p := ⟨w.heap.size + 1 + 1, 0, none⟩) (by show w.heap.size ≤ w.heap.size + 1 + 1; omega) _).setCell (p := ⟨w.heap.size + 1 + 1, 1, none⟩) (by show w.heap.size ≤ w.heap.size + 1 + 1; omega) _).setCell (p := ⟨w.heap.size + 1 + 1, 2, none⟩) (by show w.heap.size ≤ w.heap.size + 1 + 1; omega) _
end Go.Proofs.Ytjmhefkmpfkpbaa
