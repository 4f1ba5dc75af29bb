/- Field: the contract of Dyad. -/
import Derived.Test.YtjmhefkmpfkpbaaZR
import Derived.Test.YtjmhefkmpfkpbaaC
import Derived.ScopeJumps
namespace Go.Proofs.Ytjmhefkmpfkpbaa
open Go.ChangeShapes Go.WideShapes Go.ChangeAt Go.RowKit
set_option linter.unusedSimpArgs false
set_option linter.unusedVariables false
/-- From one world to the other one only block g may have turned. -/
def OnlyF (g : Nat) (w w' : World) : Prop := (∀ b t cs, b ≠ g → Blk w b t cs → Blk w' b t cs) ∧ (∀ base e size v n xs, g < base → w.ownsRow base e size v n xs → w'.ownsRow base e size v n xs) ∧ (∀ B, B ≤ g → Below B w w') ∧ w.heap.size = w'.heap.size
theorem onlyF_set {w w' : World} {g i : Nat} {u : Value} (h : ∃ m, w' = (w.drewN m).setCell ⟨g, i, none⟩ u) : OnlyF g w w' := by
  obtain ⟨m, rfl⟩ := h
  refine ⟨fun b t cs hb hk => (hk.drewN m).far hb u, fun base e size v n xs hb ho => ?_, fun B hB => (below_drewN (Below.refl _ _) m).setCell hB _, by rw [World.size_setCell]; rfl⟩
  have ho' : (w.drewN m).ownsRow base e size v n xs := ho
  exact own_set ho' hb u
theorem onlyF_refl (g : Nat) (w : World) : OnlyF g w w := ⟨fun _ _ _ _ h => h, fun _ _ _ _ _ _ _ h => h, fun _ _ => Below.refl _ _, rfl⟩
/-- One number taken: it is there, or the bytes are too few. -/
theorem ntake_one (g : Nat) (A : Option Addr) (n c : Nat) (l : List Int) (hn : l.length = n) (hb : ∀ b ∈ l, 0 ≤ b ∧ b < 256) (hm : n ≤ 100000) (hnc : n ≤ c) (p s : Nat) (h1 : 0 < s) (h8 : s ≤ 8) (hps : p + s ≤ n) (w : World) (hk : Rdr w g A n c p 0) (hR : Reads w g 1 A n (u8s l)) :
    Calls Try.prog 92 #[.pointer (some ⟨g, 0, none⟩), .int .i64 s] w fun en w' => en = .returned (.int .u64 (numI ((l.drop p).take s))) ∧ Rdr w' g A n c ((p + s : Nat) : Int) 0 ∧ OnlyF g w w' :=
  (number_ok g A n c l hn hb hm hnc p s h1 h8 hps w hk hR).mono fun _ _ ⟨a, b, c⟩ => ⟨a, b, onlyF_set c⟩
theorem ntake_short (g : Nat) (A : Option Addr) (n c : Nat) (p s : Nat) (hp1 : p ≤ n) (hm : n ≤ 100000) (hs : n < p + s) (w : World) (hk : Rdr w g A n c p 0) :
    Calls Try.prog 92 #[.pointer (some ⟨g, 0, none⟩), .int .i64 s] w fun en w' => en = .returned (.int .u64 0) ∧ Rdr w' g A n c p 40 ∧ OnlyF g w w' :=
  (number_short g A n c p s (by omega) (by omega) hm (by omega) w hk).mono fun _ _ ⟨a, b, c⟩ => ⟨a, b, onlyF_set c⟩
theorem ntake_err (g : Nat) (A : Option Addr) (n c : Nat) (p e s : Int) (he : (e != 0) = true) (w : World) (hk : Rdr w g A n c p e) :
    Calls Try.prog 92 #[.pointer (some ⟨g, 0, none⟩), .int .i64 s] w fun en w' => en = .returned (.int .u64 0) ∧ Rdr w' g A n c p e ∧ OnlyF g w w' :=
  (number_err g A n c p e s he w hk).mono fun _ _ ⟨a, b⟩ => ⟨a, b ▸ hk, b ▸ onlyF_refl g w⟩
theorem u32s_snoc (l : List Int) (x : Int) : u32s l ++ [.int .u32 x] = u32s (l ++ [x]) := by simp [u32s]
def vN (l : List Int) (p : Nat) : Int := numI ((l.drop p).take 1)
def vX (l : List Int) (p : Nat) : Int := numI ((l.drop (p + 1)).take 2)
def vM (l : List Int) (p : Nat) : Nat := (numI ((l.drop (p + 3)).take 1)).toNat
def limbAt (l : List Int) (p k : Nat) : Int := numI ((l.drop (p + 4 + 4 * k)).take 4)
def limbsOf (l : List Int) (p k : Nat) : List Int := (List.range k).map (limbAt l p)
theorem limbs_more (l : List Int) (p k : Nat) : limbsOf l p (k + 1) = limbsOf l p k ++ [limbAt l p k] := by simp [limbsOf, List.range_succ]
theorem limbs_len (l : List Int) (p k : Nat) : (limbsOf l p k).length = k := by simp [limbsOf]
def dyE (l : List Int) (p : Int) : Int :=
  if rdrE l.length p = 8 then 8 else if l.length < p.toNat + 4 then 40 else if l.length < p.toNat + 4 + 4 * vM l p.toNat then 40 else
  if (decide (1 < vN l p.toNat) || !mayD (vN l p.toNat == 1) (limbsOf l p.toNat (vM l p.toNat)) (vX l p.toNat)) = true then 41 else 0
/-- What Dyad answers. -/
def DPost (w : World) (A : Option Addr) (n c : Nat) (l : List Int) (p E : Int) (en : Ending) (w' : World) : Prop :=
  Below w.heap.size w w' ∧ (((E != 0) = true ∧ en = .returned (.tuple #[rst none 0 0 0, dy false none 0 0 0, .int .i64 E])) ∨
    (E = 0 ∧ ∃ Al cl, en = .returned (.tuple #[rst A n c (p + 4 + 4 * (vM l p.toNat : Int)), dy (vN l p.toNat == 1) Al (vM l p.toNat) cl (vX l p.toNat), .int .i64 0]) ∧
      w'.ownsRow w.heap.size 52 1 (.slice Al (vM l p.toNat) cl) (vM l p.toNat) (u32s (limbsOf l p.toNat (vM l p.toNat)))))
set_option maxRecDepth 100000 in
set_option maxHeartbeats 16000000 in
theorem dyad_any (A : Option Addr) (n c : Nat) (l : List Int) (hn : l.length = n) (hb : ∀ b ∈ l, 0 ≤ b ∧ b < 256) (hm : n ≤ 100000) (hnc : n ≤ c) (p E : Int) (hE : dyE l p = E) (w : World) (hR : Reads w w.heap.size 1 A n (u8s l)) :
    Calls Try.prog 68 #[rst A n c p] w (DPost w A n c l p E) := by
  have hB0 := (((Below.refl w.heap.size w).alloc (Nat.le_refl _) (.cells #[.slice A n c, .int .i64 p] 67)).alloc (by rw [World.size_alloc]; omega) (.cells #[.slice none 0 0, .int .i64 0] 67)).alloc (by rw [World.size_alloc, World.size_alloc]; omega) (.cells #[.bool false, .slice none 0 0, .int .i64 0] 24)
  have hr0 := (Blk.new (w.alloc (.cells #[.slice A n c, .int .i64 p] 67)) 67 #[.slice none 0 0, .int .i64 0]).alloc (.cells #[.bool false, .slice none 0 0, .int .i64 0] 24)
  have hd0 := Blk.new ((w.alloc (.cells #[.slice A n c, .int .i64 p] 67)).alloc (.cells #[.slice none 0 0, .int .i64 0] 67)) 24 #[.bool false, .slice none 0 0, .int .i64 0]
  rw [World.size_alloc] at hr0
  rw [World.size_alloc, World.size_alloc] at hd0
  go_enter Try.func68, Try.ntmps68
  go_wp2
  refine wp_scope_jumps 0 (fun a' w' => ∃ (g : Nat) (x0 x1 x2 y0 y1 z0 z1 : Value) (u1 u4 u6 u7 u8 u9 u10 u11 u12 u13 u14 u15 u16 u17 u18 u19 u20 u21 u22 u23 u24 u25 u26 u27 u28 u29 u30 u31 u32 u33 u34 u35 u36 u37 u38 u39 u40 u41 u42 u43 u44 u45 u46 u47 u48 u49 u50 u51 u52 u53 u54 u55 u56 u57 u58 u59 u60 u61 u62 u63 u64 u65 u66 u67 u68 u69 u70 : Value), w.heap.size + 1 + 1 < g ∧ (E != 0) = true ∧ Blk w' (w.heap.size + 1) 67 #[z0, z1] ∧ Blk w' (w.heap.size + 1 + 1) 24 #[x0, x1, x2] ∧ Blk w' g 135 #[y0, y1, .int .i64 E] ∧ Below w.heap.size w w' ∧ a' = { tmps := #[rst A n c p, u1, .pointer (some ⟨w.heap.size + 1, 0, none⟩), .pointer (some ⟨w.heap.size + 1 + 1, 0, none⟩), u4, .pointer (some ⟨g, 0, none⟩), u6, u7, u8, u9, u10, u11, u12, u13, u14, u15, u16, u17, u18, u19, u20, u21, u22, u23, u24, u25, u26, u27, u28, u29, u30, u31, u32, u33, u34, u35, u36, u37, u38, u39, u40, u41, u42, u43, u44, u45, u46, u47, u48, u49, u50, u51, u52, u53, u54, u55, u56, u57, u58, u59, u60, u61, u62, u63, u64, u65, u66, u67, u68, u69, u70], defers := [] }) (fun _ _ => 0) rfl ?_ ?_
  · go_wp2_with fail
    refine (of_any A n c p _).mono ?_
    rintro en w1 ⟨g, rfl, hg, hk1, hb1⟩
    have hB1 := hB0.trans (hb1.mono hB0.size)
    have hr1 := hr0.below hb1 hr0.lt
    have hd1 := hd0.below hb1 hd0.lt
    have hgd : w.heap.size + 1 + 1 < g := Nat.lt_of_lt_of_le hd0.lt hg
    have hgr : w.heap.size + 1 ≠ g := by omega
    have hgd' : w.heap.size + 1 + 1 ≠ g := by omega
    have hgw : w.heap.size ≤ g := by omega
    have hlg := hk1.lt
    have hg1 : g < w1.heap.size := hlg
    clear hb1 hg
    have hRg := (hR.below hB1).more hgw
    by_cases hp : rdrE n p = 8
    · replace hE : 8 = E := by rw [← hE]; unfold dyE; rw [hn, if_pos hp]
      subst hE
      rw [hp] at hk1
      clear hp
      go_wp2_with fail
      refine (ntake_err g A n c p 8 1 rfl _ hk1).mono ?_
      rintro en w2 ⟨rfl, hk2, hO2⟩
      have hr2 := hO2.1 _ _ _ hgr hr1
      have hd2 := hO2.1 _ _ _ hgd' hd1
      have hB2 := hB1.trans (hO2.2.2.1 _ hgw)
      go_wp2_with fail
      refine (ntake_err g A n c p 8 2 rfl _ hk2).mono ?_
      rintro en w3 ⟨rfl, hk3, hO3⟩
      have hr3 := hO3.1 _ _ _ hgr hr2
      have hd3 := hO3.1 _ _ _ hgd' hd2
      have hB3 := hB2.trans (hO3.2.2.1 _ hgw)
      go_wp2_with fail
      refine (ntake_err g A n c p 8 1 rfl _ hk3).mono ?_
      rintro en w4 ⟨rfl, hk4, hO4⟩
      have hr4 := hO4.1 _ _ _ hgr hr3
      have hd4 := hO4.1 _ _ _ hgd' hd3
      have hB4 := hB3.trans (hO4.2.2.1 _ hgw)
      clear hk1 hk2 hk3 hr1 hr2 hr3 hd1 hd2 hd3 hB1 hB2 hB3 hO2 hO3 hO4
      go_wp2
      go_loopw [9] (fun m wr => m = .int .u64 0 ∧ w4 = wr) (fun _ _ => 0)
      case atStart => exact ⟨rfl, rfl⟩
      case round =>
        obtain ⟨rfl, rfl⟩ := hrel
        have a0 := hk4.cell 0
        have a1 := hk4.cell 1
        have a2 := hk4.cell 2
        go_wp2
        go_step3
        refine ⟨rfl, g, _, _, _, _, _, _, _, _, _, _, _, _, _, _, _, _, _, _, _, _, _, _, _, _, _, _, _, _, _, _, _, _, _, _, _, _, _, _, _, _, _, _, _, _, _, _, _, _, _, _, _, _, _, _, _, _, _, _, _, _, _, _, _, _, _, _, _, _, _, _, _, _, _, _, hgd, rfl, hr4, hd4, hk4, hB4, rfl⟩
    · obtain ⟨pn, rfl⟩ : ∃ pn : Nat, p = (pn : Int) := ⟨p.toNat, by unfold rdrE at hp; split at hp <;> omega⟩
      have hpn : pn ≤ n := by unfold rdrE at hp; split at hp <;> omega
      have hp0 : rdrE n (pn : Int) = 0 := if_pos ⟨by omega, by omega⟩
      rw [hp0] at hk1
      have h40 : ∀ q, (n < pn + 4 ∨ n < pn + 4 + 4 * vM l pn) → dyE l (pn : Int) = q → q = 40 := fun q h hq => by
        rw [← hq]
        unfold dyE
        rw [hn, if_neg hp]
        simp only [Int.toNat_natCast]
        by_cases h2 : n < pn + 4
        · rw [if_pos h2]
        · rw [if_neg h2, if_pos (by omega)]
      by_cases h4 : n < pn + 4
      · obtain rfl := h40 _ (.inl h4) hE
        clear h40 hE hp hp0
        have hc : n < pn + 1 ∨ (pn + 1 ≤ n ∧ n < pn + 1 + 2) ∨ (pn + 1 + 2 ≤ n ∧ n < pn + 1 + 2 + 1) := by omega
        rcases hc with hc | ⟨hc1, hc2⟩ | ⟨hc1, hc2⟩
        · go_wp2_with fail
          refine (ntake_short g A n c (pn) 1 (by omega) hm (by omega) _ hk1).mono ?_
          rintro en w2 ⟨rfl, hk2, hO2⟩
          have hr2 := hO2.1 _ _ _ hgr hr1
          have hd2 := hO2.1 _ _ _ hgd' hd1
          have hB2 := hB1.trans (hO2.2.2.1 _ hgw)
          go_wp2_with fail
          refine (ntake_err g A n c ((pn : Nat) : Int) 40 2 rfl _ hk2).mono ?_
          rintro en w3 ⟨rfl, hk3, hO3⟩
          have hr3 := hO3.1 _ _ _ hgr hr2
          have hd3 := hO3.1 _ _ _ hgd' hd2
          have hB3 := hB2.trans (hO3.2.2.1 _ hgw)
          go_wp2_with fail
          refine (ntake_err g A n c ((pn : Nat) : Int) 40 1 rfl _ hk3).mono ?_
          rintro en w4 ⟨rfl, hk4, hO4⟩
          have hr4 := hO4.1 _ _ _ hgr hr3
          have hd4 := hO4.1 _ _ _ hgd' hd3
          have hB4 := hB3.trans (hO4.2.2.1 _ hgw)
          clear hn hb hR hRg
          clear hk1 hk2 hk3 hr1 hr2 hr3 hd1 hd2 hd3 hB1 hB2 hB3 hO2 hO3 hO4
          go_wp2
          go_loopw [9] (fun m wr => m = .int .u64 0 ∧ w4 = wr) (fun _ _ => 0)
          case atStart => exact ⟨rfl, rfl⟩
          case round =>
            obtain ⟨rfl, rfl⟩ := hrel
            have a0 := hk4.cell 0
            have a1 := hk4.cell 1
            have a2 := hk4.cell 2
            go_wp2
            go_step3
            refine ⟨rfl, g, _, _, _, _, _, _, _, _, _, _, _, _, _, _, _, _, _, _, _, _, _, _, _, _, _, _, _, _, _, _, _, _, _, _, _, _, _, _, _, _, _, _, _, _, _, _, _, _, _, _, _, _, _, _, _, _, _, _, _, _, _, _, _, _, _, _, _, _, _, _, _, _, _, _, hgd, rfl, hr4, hd4, hk4, hB4, rfl⟩
        · go_wp2_with fail
          refine (ntake_one g A n c l hn hb hm hnc (pn) 1 (by omega) (by omega) (by omega) _ hk1 ((hR.below hB1).more hgw)).mono ?_
          rintro en w2 ⟨rfl, hk2, hO2⟩
          have hr2 := hO2.1 _ _ _ hgr hr1
          have hd2 := hO2.1 _ _ _ hgd' hd1
          have hB2 := hB1.trans (hO2.2.2.1 _ hgw)
          obtain ⟨q1, hq1⟩ : ∃ q, numI ((l.drop pn).take 1) = q := ⟨_, rfl⟩
          rw [hq1]
          clear hq1
          go_wp2_with fail
          refine (ntake_short g A n c (pn + 1) 2 (by omega) hm (by omega) _ hk2).mono ?_
          rintro en w3 ⟨rfl, hk3, hO3⟩
          have hr3 := hO3.1 _ _ _ hgr hr2
          have hd3 := hO3.1 _ _ _ hgd' hd2
          have hB3 := hB2.trans (hO3.2.2.1 _ hgw)
          go_wp2_with fail
          refine (ntake_err g A n c ((pn + 1 : Nat) : Int) 40 1 rfl _ hk3).mono ?_
          rintro en w4 ⟨rfl, hk4, hO4⟩
          have hr4 := hO4.1 _ _ _ hgr hr3
          have hd4 := hO4.1 _ _ _ hgd' hd3
          have hB4 := hB3.trans (hO4.2.2.1 _ hgw)
          clear hn hb hR hRg
          clear hk1 hk2 hk3 hr1 hr2 hr3 hd1 hd2 hd3 hB1 hB2 hB3 hO2 hO3 hO4
          go_wp2
          go_loopw [9] (fun m wr => m = .int .u64 0 ∧ w4 = wr) (fun _ _ => 0)
          case atStart => exact ⟨rfl, rfl⟩
          case round =>
            obtain ⟨rfl, rfl⟩ := hrel
            have a0 := hk4.cell 0
            have a1 := hk4.cell 1
            have a2 := hk4.cell 2
            go_wp2
            go_step3
            refine ⟨rfl, g, _, _, _, _, _, _, _, _, _, _, _, _, _, _, _, _, _, _, _, _, _, _, _, _, _, _, _, _, _, _, _, _, _, _, _, _, _, _, _, _, _, _, _, _, _, _, _, _, _, _, _, _, _, _, _, _, _, _, _, _, _, _, _, _, _, _, _, _, _, _, _, _, _, _, hgd, rfl, hr4, hd4, hk4, hB4, rfl⟩
        · go_wp2_with fail
          refine (ntake_one g A n c l hn hb hm hnc (pn) 1 (by omega) (by omega) (by omega) _ hk1 ((hR.below hB1).more hgw)).mono ?_
          rintro en w2 ⟨rfl, hk2, hO2⟩
          have hr2 := hO2.1 _ _ _ hgr hr1
          have hd2 := hO2.1 _ _ _ hgd' hd1
          have hB2 := hB1.trans (hO2.2.2.1 _ hgw)
          obtain ⟨q1, hq1⟩ : ∃ q, numI ((l.drop pn).take 1) = q := ⟨_, rfl⟩
          rw [hq1]
          clear hq1
          go_wp2_with fail
          refine (ntake_one g A n c l hn hb hm hnc (pn + 1) 2 (by omega) (by omega) (by omega) _ hk2 ((hR.below hB2).more hgw)).mono ?_
          rintro en w3 ⟨rfl, hk3, hO3⟩
          have hr3 := hO3.1 _ _ _ hgr hr2
          have hd3 := hO3.1 _ _ _ hgd' hd2
          have hB3 := hB2.trans (hO3.2.2.1 _ hgw)
          obtain ⟨q2, hq2⟩ : ∃ q, numI ((l.drop (pn + 1)).take 2) = q := ⟨_, rfl⟩
          rw [hq2]
          clear hq2
          go_wp2_with fail
          refine (ntake_short g A n c (pn + 1 + 2) 1 (by omega) hm (by omega) _ hk3).mono ?_
          rintro en w4 ⟨rfl, hk4, hO4⟩
          have hr4 := hO4.1 _ _ _ hgr hr3
          have hd4 := hO4.1 _ _ _ hgd' hd3
          have hB4 := hB3.trans (hO4.2.2.1 _ hgw)
          clear hn hb hR hRg
          clear hk1 hk2 hk3 hr1 hr2 hr3 hd1 hd2 hd3 hB1 hB2 hB3 hO2 hO3 hO4
          go_wp2
          go_loopw [9] (fun m wr => m = .int .u64 0 ∧ w4 = wr) (fun _ _ => 0)
          case atStart => exact ⟨rfl, rfl⟩
          case round =>
            obtain ⟨rfl, rfl⟩ := hrel
            have a0 := hk4.cell 0
            have a1 := hk4.cell 1
            have a2 := hk4.cell 2
            go_wp2
            go_step3
            refine ⟨rfl, g, _, _, _, _, _, _, _, _, _, _, _, _, _, _, _, _, _, _, _, _, _, _, _, _, _, _, _, _, _, _, _, _, _, _, _, _, _, _, _, _, _, _, _, _, _, _, _, _, _, _, _, _, _, _, _, _, _, _, _, _, _, _, _, _, _, _, _, _, _, _, _, _, _, _, hgd, rfl, hr4, hd4, hk4, hB4, rfl⟩
      · have hM8 := part_range hb (pn + 3) 1
        obtain ⟨M, hM⟩ : ∃ M : Nat, numI ((l.drop (pn + 1 + 2)).take 1) = (M : Int) := ⟨(numI ((l.drop (pn + 3)).take 1)).toNat, (Int.toNat_of_nonneg hM8.1).symm⟩
        have hvM : vM l pn = M := by unfold vM; rw [show numI ((l.drop (pn + 3)).take 1) = (M : Int) from hM]; rfl
        have hM2 : M < 256 := by have := hM8.2; rw [show numI ((l.drop (pn + 3)).take 1) = (M : Int) from hM] at this; omega
        clear hM8
        go_wp2_with fail
        refine (ntake_one g A n c l hn hb hm hnc (pn) 1 (by omega) (by omega) (by omega) _ hk1 ((hR.below hB1).more hgw)).mono ?_
        rintro en w2 ⟨rfl, hk2, hO2⟩
        have hr2 := hO2.1 _ _ _ hgr hr1
        have hd2 := hO2.1 _ _ _ hgd' hd1
        have hB2 := hB1.trans (hO2.2.2.1 _ hgw)
        obtain ⟨N1, hN1⟩ : ∃ q, numI ((l.drop pn).take 1) = q := ⟨_, rfl⟩
        rw [hN1]
        go_wp2_with fail
        refine (ntake_one g A n c l hn hb hm hnc (pn + 1) 2 (by omega) (by omega) (by omega) _ hk2 ((hR.below hB2).more hgw)).mono ?_
        rintro en w3 ⟨rfl, hk3, hO3⟩
        have hr3 := hO3.1 _ _ _ hgr hr2
        have hd3 := hO3.1 _ _ _ hgd' hd2
        have hB3 := hB2.trans (hO3.2.2.1 _ hgw)
        obtain ⟨N2, hN2⟩ : ∃ q, numI ((l.drop (pn + 1)).take 2) = q := ⟨_, rfl⟩
        rw [hN2]
        go_wp2_with fail
        refine (ntake_one g A n c l hn hb hm hnc (pn + 1 + 2) 1 (by omega) (by omega) (by omega) _ hk3 ((hR.below hB3).more hgw)).mono ?_
        rintro en w4 ⟨rfl, hk4, hO4⟩
        have hr4 := hO4.1 _ _ _ hgr hr3
        have hd4 := hO4.1 _ _ _ hgd' hd3
        have hB4 := hB3.trans (hO4.2.2.1 _ hgw)
        rw [hM]
        have hN1r : 0 ≤ N1 ∧ N1 < 256 := by have := part_range hb pn 1; rw [hN1] at this; omega
        have hN2r : 0 ≤ N2 ∧ N2 < 65536 := by have := part_range hb (pn + 1) 2; rw [hN2] at this; omega
        have hlim : ∀ k, 0 ≤ limbAt l pn k ∧ limbAt l pn k < 4294967296 := fun k => by have := part_range hb (pn + 4 + 4 * k) 4; unfold limbAt; omega
        have hs14 : w1.heap.size ≤ w4.heap.size := by have a := hO2.2.2.2; have b := hO3.2.2.2; have c := hO4.2.2.2; omega
        have hEv : pn + 4 + 4 * M ≤ n → E = if (decide (1 < N1) || !mayD (N1 == 1) (limbsOf l pn M) N2) = true then 41 else 0 := fun h => by
          rw [← hE]
          unfold dyE
          rw [hn, if_neg hp]
          simp only [Int.toNat_natCast]
          simp only [hvM, show vN l pn = N1 from hN1, show vX l pn = N2 from hN2]
          rw [if_neg h4, if_neg (by omega)]
        replace hEv := Lib.hid hEv
        replace hN1 := Lib.hid hN1
        replace hN2 := Lib.hid hN2
        replace hM := Lib.hid hM
        replace hvM := Lib.hid hvM
        replace hE := Lib.hid hE
        have HN := Lib.hid hn
        have HB := Lib.hid hb
        obtain ⟨i0, hi0, hz0, hz1, hz2⟩ := info_parts infoU32
        clear hk1 hk2 hk3 hr1 hr2 hr3 hd1 hd2 hd3 hB1 hB2 hB3 hO2 hO3 hO4 hRg hn hb hp0 hp
        go_wp2
        go_loopw [9] (fun mm wr => ∃ (k : Nat) (Al : Option Addr) (cl : Nat), k ≤ M ∧ mm = .int .u64 ((M - k : Nat) : Int) ∧ pn + 4 + 4 * k ≤ n ∧ Rdr wr g A n c ((pn + 4 + 4 * k : Nat) : Int) 0 ∧ Blk wr (w.heap.size + 1) 67 #[.slice none 0 0, .int .i64 0] ∧ Blk wr (w.heap.size + 1 + 1) 24 #[.bool false, .slice Al k cl, .int .i64 0] ∧ wr.ownsRow w1.heap.size 52 1 (.slice Al k cl) k (u32s (limbsOf l pn k)) ∧ Below w.heap.size w wr ∧ w1.heap.size ≤ wr.heap.size) (fun mm _ => (intOf mm).toNat)
        case atStart => exact ⟨0, none, 0, by omega, rfl, by omega, hk4, hr4, hd4, World.ownsRow_nil _ _ _ _, hB4, hs14⟩
        case round =>
          clear hk4 hr4 hd4 hB4 hs14
          obtain ⟨k, Al, cl, hk, rfl, hkn, hK, hRb, hD, hO, hB, hsz⟩ := hrel
          rcases Nat.lt_or_ge k M with hlt | hge
          · have d : decide ((0 : Int) < ((M - k : Nat) : Int)) = true := decide_eq_true (by omega)
            obtain ⟨mk, hmk⟩ : ∃ mk : Nat, M - k = mk := ⟨_, rfl⟩
            rw [hmk] at d ⊢
            have hmk0 : 0 < mk := by omega
            have hmk1 : (0 : Int) < (mk : Int) := by omega
            have wk : IntKind.u64.wrap ((mk : Int) - 1) = ((M - (k + 1) : Nat) : Int) := (IntWalk.u64_in _ (by omega)).trans (by omega)
            replace hmk := Lib.hid hmk
            by_cases h : pn + 4 + 4 * k + 4 ≤ n
            · go_wp2_with fail
              refine (ntake_one g A n c l HN.out HB.out hm hnc (pn + 4 + 4 * k) 4 (by omega) (by omega) h _ hK ((hR.below hB).more hgw)).mono ?_
              rintro en w5 ⟨rfl, hK5, hO5⟩
              have hR5 := hO5.1 _ _ _ hgr hRb
              have hD5 := hO5.1 _ _ _ hgd' hD
              have hB5 := hB.trans (hO5.2.2.1 _ hgw)
              have ho5 := hO5.2.1 _ _ _ _ _ _ hg1 hO
              have hs5 : w1.heap.size ≤ w5.heap.size := by have := hO5.2.2.2; omega
              obtain ⟨y, hy⟩ : ∃ y, limbAt l pn k = y := ⟨_, rfl⟩
              have hyr := hlim k
              rw [hy] at hyr
              rw [show numI ((l.drop (pn + 4 + 4 * k)).take 4) = y from hy]
              have hmore := Lib.hid (show limbsOf l pn k ++ [y] = limbsOf l pn (k + 1) by rw [limbs_more, hy])
              obtain ⟨Q, hQ⟩ : ∃ Q, limbsOf l pn k = Q := ⟨_, rfl⟩
              rw [hQ] at ho5 hmore
              obtain ⟨y0, y1⟩ := hyr
              have wy : IntKind.u32.wrap y = y := IntWalk.u32_in _ (by omega)
              clear hK hRb hD hO hB hO5 hy hQ
              have a0 := hK5.cell 0
              have a1 := hK5.cell 1
              have a2 := hK5.cell 2
              have d0 := hD5.cell 0
              have d1 := hD5.cell 1
              have d2 := hD5.cell 2
              have df0 := hD5.frozen 0
              have df1 := hD5.frozen 1
              have df2 := hD5.frozen 2
              have dlt := hD5.lt
              go_wp2_with (at_builtin; refine wpList_push2 rfl (.tmp 34) (.tmp 36) _ rfl w1.heap.size 52 i0 _ 1 4 Try.underlying22 hi0 hz0 hz1 hz2 rfl (by omega) (Below.mono (Below.refl w5.heap.size w5) hs5) hs5 (.slice Al k cl) k (u32s Q) rfl ho5 [.int .u32 y] rfl (by simp [Value.oneCell']) rfl (by unfold maxLen; omega) (by omega) ?_; intro v' w' ho' hBw hkp; rw [u32s_snoc] at ho'; obtain ⟨A', c', rfl, _, _⟩ := own_slice ho'; have hne : ∀ b, b < w1.heap.size → (Value.slice Al k cl).ownBlock ≠ some b := (fun b hb he => by have := own_base ho5 he; omega); have hKn := (hkp g (by omega) (hne g hg1)).2 _ _ hK5; have hRn := (hkp (w.heap.size + 1) (by omega) (hne _ (by omega))).2 _ _ hR5; have hDn := (hkp (w.heap.size + 1 + 1) (by omega) (hne _ (by omega))).2 _ _ hD5; have hBn := hB5.trans (hBw.mono (show w.heap.size ≤ w1.heap.size by omega)); have hsn : w1.heap.size ≤ w'.heap.size := Nat.le_trans hs5 hBw.size; clear d0 d1 d2 df0 df1 df2 dlt a0 a1 a2; have d0 := hDn.cell 0; have d1 := hDn.cell 1; have d2 := hDn.cell 2; have df1 := hDn.frozen 1; have dlt := hDn.lt)
              have hDs : Blk (w'.setCell ⟨w.heap.size + 1 + 1, 1, none⟩ (.slice A' (k + 1) c')) (w.heap.size + 1 + 1) 24 #[.bool false, .slice A' (k + 1) c', .int .i64 0] := by simpa using hDn.set_ 1 (.slice A' (k + 1) c')
              have hKs := hKn.far (p := ⟨w.heap.size + 1 + 1, 1, none⟩) (by show g ≠ w.heap.size + 1 + 1; omega) (.slice A' (k + 1) c')
              have hRs := hRn.far (p := ⟨w.heap.size + 1 + 1, 1, none⟩) (by show w.heap.size + 1 ≠ w.heap.size + 1 + 1; omega) (.slice A' (k + 1) c')
              have hOs := own_set (p := ⟨w.heap.size + 1 + 1, 1, none⟩) ho' (by show w.heap.size + 1 + 1 < w1.heap.size; omega) (.slice A' (k + 1) c')
              have hBs := hBn.setCell (p := ⟨w.heap.size + 1 + 1, 1, none⟩) (by show w.heap.size ≤ w.heap.size + 1 + 1; omega) (.slice A' (k + 1) c')
              have hss : w1.heap.size ≤ (w'.setCell ⟨w.heap.size + 1 + 1, 1, none⟩ (.slice A' (k + 1) c')).heap.size := by rw [World.size_setCell]; exact hsn
              rw [hmore.out] at hOs
              clear hKn hRn hDn ho' hBn hBw hkp hne ho5 hB5 hR5 hD5 hK5
              go_roundw
              case rel => exact ⟨k + 1, A', c', by omega, by go_num, by omega, hKs, hRs, hDs, hOs, hBs, hss⟩
              case measure => have := hmk.out; simp [intOf]; omega
            · go_wp2_with fail
              have hE40 := h40 _ (.inr (by rw [hvM.out]; omega)) hE.out
              refine (ntake_short g A n c (pn + 4 + 4 * k) 4 hkn hm (by omega) _ hK).mono ?_
              rintro en w5 ⟨rfl, hK5, hO5⟩
              have hR5 := hO5.1 _ _ _ hgr hRb
              have hD5 := hO5.1 _ _ _ hgd' hD
              have hB5 := hB.trans (hO5.2.2.1 _ hgw)
              clear hK hRb hD hO hB hO5 hR h40
              have a0 := hK5.cell 0
              have a1 := hK5.cell 1
              have a2 := hK5.cell 2
              go_wp2_with fail
              go_step3
              subst hE40
              refine ⟨rfl, g, _, _, _, _, _, _, _, _, _, _, _, _, _, _, _, _, _, _, _, _, _, _, _, _, _, _, _, _, _, _, _, _, _, _, _, _, _, _, _, _, _, _, _, _, _, _, _, _, _, _, _, _, _, _, _, _, _, _, _, _, _, _, _, _, _, _, _, _, _, _, _, _, _, _, hgd, rfl, hR5, hD5, hK5, hB5, rfl⟩
          · obtain rfl : k = M := by omega
            rw [Nat.sub_self]
            have hL0 : ((0 : Nat) : Int) = 0 := rfl
            rw [hL0]
            clear hL0 hge
            have a0 := hK.cell 0
            have a1 := hK.cell 1
            have a2 := hK.cell 2
            have d0 := hD.cell 0
            have d1 := hD.cell 1
            have d2 := hD.cell 2
            have df0 := hD.frozen 0
            have df1 := hD.frozen 1
            have df2 := hD.frozen 2
            have dlt := hD.lt
            have wx : IntKind.i64.wrap N2 = N2 := IntWalk.i64_in _ (by omega)
            have af2 := hK.frozen 2
            have alt := hK.lt
            have hE1 := hEv.out hkn
            have hR2 := (hRb.far (p := ⟨w.heap.size + 1 + 1, 0, none⟩) (by show w.heap.size + 1 ≠ w.heap.size + 1 + 1; omega) (.bool (N1 == 1))).far (p := ⟨w.heap.size + 1 + 1, 2, none⟩) (by show w.heap.size + 1 ≠ w.heap.size + 1 + 1; omega) (.int .i64 N2)
            have hD2 : Blk ((wr.setCell ⟨w.heap.size + 1 + 1, 0, none⟩ (.bool (N1 == 1))).setCell ⟨w.heap.size + 1 + 1, 2, none⟩ (.int .i64 N2)) (w.heap.size + 1 + 1) 24 #[.bool (N1 == 1), .slice Al k cl, .int .i64 N2] := by simpa using (hD.set_ 0 (.bool (N1 == 1))).set_ 2 (.int .i64 N2)
            have hK2 := (hK.far (p := ⟨w.heap.size + 1 + 1, 0, none⟩) (by show g ≠ w.heap.size + 1 + 1; omega) (.bool (N1 == 1))).far (p := ⟨w.heap.size + 1 + 1, 2, none⟩) (by show g ≠ w.heap.size + 1 + 1; omega) (.int .i64 N2)
            have hO2 := own_set (p := ⟨w.heap.size + 1 + 1, 2, none⟩) (own_set (p := ⟨w.heap.size + 1 + 1, 0, none⟩) hO (by show w.heap.size + 1 + 1 < w1.heap.size; omega) (.bool (N1 == 1))) (by show w.heap.size + 1 + 1 < w1.heap.size; omega) (.int .i64 N2)
            have hB2 := (hB.setCell (p := ⟨w.heap.size + 1 + 1, 0, none⟩) (by show w.heap.size ≤ w.heap.size + 1 + 1; omega) (.bool (N1 == 1))).setCell (p := ⟨w.heap.size + 1 + 1, 2, none⟩) (by show w.heap.size ≤ w.heap.size + 1 + 1; omega) (.int .i64 N2)
            have hww : w.heap.size ≤ w1.heap.size := by omega
            clear hR h40 hRb hD hK hB hO
            by_cases hN : 1 < N1
            · rw [decide_eq_true hN, Bool.true_or, if_pos rfl] at hE1
              subst hE1
              have d : decide (1 < N1) = true := decide_eq_true hN
              have hR3 := hR2.far (p := ⟨g, 2, none⟩) hgr (.int .i64 41)
              have hD3 := hD2.far (p := ⟨g, 2, none⟩) hgd' (.int .i64 41)
              have hK3 := (show Blk _ g 135 #[.slice A n c, .int .i64 ((pn + 4 + 4 * k : Nat) : Int), .int .i64 41] from hK2.set_ 2 (.int .i64 41))
              have hB3 := hB2.setCell (p := ⟨g, 2, none⟩) hgw (.int .i64 41)
              clear hR2 hD2 hK2 hO2 hB2
              go_wp2
              go_step3
              refine ⟨rfl, g, _, _, _, _, _, _, _, _, _, _, _, _, _, _, _, _, _, _, _, _, _, _, _, _, _, _, _, _, _, _, _, _, _, _, _, _, _, _, _, _, _, _, _, _, _, _, _, _, _, _, _, _, _, _, _, _, _, _, _, _, _, _, _, _, _, _, _, _, _, _, _, _, _, _, hgd, rfl, hR3, hD3, hK3, hB3, rfl⟩
            · have d : decide (1 < N1) = false := decide_eq_false hN
              have hlen := limbs_len l pn k
              have hnn : ∀ x ∈ limbsOf l pn k, 0 ≤ x := fun x hx => by
                unfold limbsOf at hx
                simp only [List.mem_map] at hx
                obtain ⟨j, _, rfl⟩ := hx
                exact (hlim j).1
              have hdc := dcheck_any (N1 == 1) Al k cl (limbsOf l pn k) hlen hnn N2 _ (Reads.of_own hO2)
              rw [d, Bool.false_or] at hE1
              obtain ⟨MD, hMD⟩ : ∃ MD, mayD (N1 == 1) (limbsOf l pn k) N2 = MD := ⟨_, rfl⟩
              rw [hMD] at hdc hE1
              clear hMD hnn
              go_wp2_with fail
              refine hdc.mono ?_
              rintro en w6 ⟨rfl, hb6⟩
              have hR6 := hR2.below hb6 hR2.lt
              have hD6 := hD2.below hb6 hD2.lt
              have hK6 := hK2.below hb6 hK2.lt
              have hO6 := own_below hO2 hb6
              have hB6 := hB2.trans (hb6.mono hB2.size)
              clear hR2 hD2 hK2 hO2 hB2 hb6 hdc a0 a1 a2 af2 alt d0 d1 d2 df0 df1 df2 dlt
              have a0 := hK6.cell 0
              have a1 := hK6.cell 1
              have a2 := hK6.cell 2
              have af2 := hK6.frozen 2
              have alt := hK6.lt
              have r0 := hR6.cell 0
              have r1 := hR6.cell 1
              have rf0 := hR6.frozen 0
              have rf1 := hR6.frozen 1
              have rlt := hR6.lt
              have d0 := hD6.cell 0
              have d1 := hD6.cell 1
              have d2 := hD6.cell 2
              have df0 := hD6.frozen 0
              have df1 := hD6.frozen 1
              have df2 := hD6.frozen 2
              have dlt := hD6.lt
              cases MD
              · rw [Bool.not_false, if_pos rfl] at hE1
                subst hE1
                have hR3 := hR6.far (p := ⟨g, 2, none⟩) hgr (.int .i64 41)
                have hD3 := hD6.far (p := ⟨g, 2, none⟩) hgd' (.int .i64 41)
                have hK3 := (show Blk _ g 135 #[.slice A n c, .int .i64 ((pn + 4 + 4 * k : Nat) : Int), .int .i64 41] from hK6.set_ 2 (.int .i64 41))
                have hB3 := hB6.setCell (p := ⟨g, 2, none⟩) hgw (.int .i64 41)
                clear hR6 hD6 hK6 hO6 hB6
                go_wp2
                go_step3
                refine ⟨rfl, g, _, _, _, _, _, _, _, _, _, _, _, _, _, _, _, _, _, _, _, _, _, _, _, _, _, _, _, _, _, _, _, _, _, _, _, _, _, _, _, _, _, _, _, _, _, _, _, _, _, _, _, _, _, _, _, _, _, _, _, _, _, _, _, _, _, _, _, _, _, _, _, _, _, _, hgd, rfl, hR3, hD3, hK3, hB3, rfl⟩
              · rw [Bool.not_true, if_neg (by simp)] at hE1
                subst hE1
                have hB9 := ((((hB6.setCell (p := ⟨w.heap.size + 1, 0, none⟩) (by show w.heap.size ≤ w.heap.size + 1; omega) (.slice A n c)).setCell (p := ⟨w.heap.size + 1, 1, none⟩) (by show w.heap.size ≤ w.heap.size + 1; omega) (.int .i64 ((pn : Int) + 4 + 4 * (k : Int)))).setCell (p := ⟨w.heap.size + 1 + 1, 0, none⟩) (by show w.heap.size ≤ w.heap.size + 1 + 1; omega) (.bool (N1 == 1))).setCell (p := ⟨w.heap.size + 1 + 1, 1, none⟩) (by show w.heap.size ≤ w.heap.size + 1 + 1; omega) (.slice Al k cl)).setCell (p := ⟨w.heap.size + 1 + 1, 2, none⟩) (by show w.heap.size ≤ w.heap.size + 1 + 1; omega) (.int .i64 N2)
                go_wp2_with fail
                go_region
                go_wp2
                simp only [Exit.jump]
                have KK := (((((hR6.set_ 0 (.slice A n c)).set_ 1 (.int .i64 ((pn : Int) + 4 + 4 * (k : Int)))).far (p := ⟨w.heap.size + 1 + 1, 0, none⟩) (by simp) (.bool (N1 == 1))).far (p := ⟨w.heap.size + 1 + 1, 1, none⟩) (by simp) (.slice Al k cl)).far (p := ⟨w.heap.size + 1 + 1, 2, none⟩) (by simp) (.int .i64 N2)).drew
                have LL := (((((hD6.far (p := ⟨w.heap.size + 1, 0, none⟩) (by simp) (.slice A n c)).far (p := ⟨w.heap.size + 1, 1, none⟩) (by simp) (.int .i64 ((pn : Int) + 4 + 4 * (k : Int)))).set_ 0 (.bool (N1 == 1))).set_ 1 (.slice Al k cl)).set_ 2 (.int .i64 N2)).drew
                have OO := own_set (p := ⟨w.heap.size + 1 + 1, 2, none⟩) (own_set (p := ⟨w.heap.size + 1 + 1, 1, none⟩) (own_set (p := ⟨w.heap.size + 1 + 1, 0, none⟩) (own_set (p := ⟨w.heap.size + 1, 1, none⟩) (own_set (p := ⟨w.heap.size + 1, 0, none⟩) hO6 (by show w.heap.size + 1 < w1.heap.size; omega) (.slice A n c)) (by show w.heap.size + 1 < w1.heap.size; omega) (.int .i64 ((pn : Int) + 4 + 4 * (k : Int)))) (by show w.heap.size + 1 + 1 < w1.heap.size; omega) (.bool (N1 == 1))) (by show w.heap.size + 1 + 1 < w1.heap.size; omega) (.slice Al k cl)) (by show w.heap.size + 1 + 1 < w1.heap.size; omega) (.int .i64 N2)
                have q0 := KK.cell 0
                have q1 := KK.cell 1
                have q2 := LL.cell 0
                have q3 := LL.cell 1
                have q4 := LL.cell 2
                simp at q0 q1 q2 q3 q4
                refine bodyPost_ret (v := .tuple #[rst A n c ((pn : Int) + 4 + 4 * (k : Int)), dy (N1 == 1) Al k cl N2, .int .i64 0]) (by simp [results, Try.results68, go_sem, q0, q1, q2, q3, q4]) rfl ⟨hB9.drew, .inr ⟨rfl, Al, cl, ?_, ?_⟩⟩
                · simp only [Int.toNat_natCast, hvM.out, show vN l pn = N1 from hN1.out, show vX l pn = N2 from hN2.out]
                · simp only [Int.toNat_natCast, hvM.out]
                  exact own_mono OO hww
  · rintro a' w3 ⟨g, x0, x1, x2, y0, y1, z0, z1, u1, u4, u6, u7, u8, u9, u10, u11, u12, u13, u14, u15, u16, u17, u18, u19, u20, u21, u22, u23, u24, u25, u26, u27, u28, u29, u30, u31, u32, u33, u34, u35, u36, u37, u38, u39, u40, u41, u42, u43, u44, u45, u46, u47, u48, u49, u50, u51, u52, u53, u54, u55, u56, u57, u58, u59, u60, u61, u62, u63, u64, u65, u66, u67, u68, u69, u70, hgd, hE0, hr, hd, hk, hB, rfl⟩
    clear hB0 hr0 hd0
    have HE0 := Lib.hid hE0
    clear hE0
    have a0 := hk.cell 0
    have a1 := hk.cell 1
    have a2 := hk.cell 2
    have r0 := hr.cell 0
    have r1 := hr.cell 1
    have rf0 := hr.frozen 0
    have rf1 := hr.frozen 1
    have rlt := hr.lt
    have d0 := hd.cell 0
    have d1 := hd.cell 1
    have d2 := hd.cell 2
    have df0 := hd.frozen 0
    have df1 := hd.frozen 1
    have df2 := hd.frozen 2
    have dlt := hd.lt
    go_wp2_with fail
    go_region
    go_wp2
    simp only [Exit.jump]
    have K := (((((hr.set_ 0 (.slice none 0 0)).set_ 1 (.int .i64 0)).far (p := ⟨w.heap.size + 1 + 1, 0, none⟩) (by simp) (.bool false)).far (p := ⟨w.heap.size + 1 + 1, 1, none⟩) (by simp) (.slice none 0 0)).far (p := ⟨w.heap.size + 1 + 1, 2, none⟩) (by simp) (.int .i64 0)).drew
    have L := (((((hd.far (p := ⟨w.heap.size + 1, 0, none⟩) (by simp) (.slice none 0 0)).far (p := ⟨w.heap.size + 1, 1, none⟩) (by simp) (.int .i64 0)).set_ 0 (.bool false)).set_ 1 (.slice none 0 0)).set_ 2 (.int .i64 0)).drew
    have q0 := K.cell 0
    have q1 := K.cell 1
    have q2 := L.cell 0
    have q3 := L.cell 1
    have q4 := L.cell 2
    simp at q0 q1 q2 q3 q4
    refine bodyPost_ret (v := .tuple #[rst none 0 0 0, dy false none 0 0 0, .int .i64 E]) (by simp [results, Try.results68, go_sem, q0, q1, q2, q3, q4]) rfl ⟨?_, .inl ⟨HE0.out, rfl⟩⟩
    exact (((((hB.setCell (p := ⟨w.heap.size + 1, 0, none⟩) (by show w.heap.size ≤ w.heap.size + 1; omega) _).setCell (p := ⟨w.heap.size + 1, 1, none⟩) (by show w.heap.size ≤ w.heap.size + 1; omega) _).setCell (p := ⟨w.heap.size + 1 + 1, 0, none⟩) (by show w.heap.size ≤ w.heap.size + 1 + 1; omega) _).setCell (p := ⟨w.heap.size + 1 + 1, 1, none⟩) (by show w.heap.size ≤ w.heap.size + 1 + 1; omega) _).setCell (p := ⟨w.heap.size + 1 + 1, 2, none⟩) (by show w.heap.size ≤ w.heap.size + 1 + 1; omega) _).drew
end Go.Proofs.Ytjmhefkmpfkpbaa
