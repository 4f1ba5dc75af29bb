/- Limb's Door: the walk of the law LimbShifts. -/
import Derived.Test.YtaklmkjldmbleaaDoorJ
import Derived.Test.YtaklmkjldmbleaaDoorW
namespace Go.Proofs.YtaklmkjldmbleaaDoor
open Go.ChangeShapes Go.WideShapes Go.ChangeAt Go.RowKit
set_option linter.unusedSimpArgs false
set_option linter.unusedVariables false
theorem leftS_len (a : List Nat) (k : Int) : (leftS a k).1.length ≤ 40 := by
  unfold leftS
  split
  · split
    · simp
    · split
      · simp
      · split
        · simp
        · exact over_len _
  · simp
theorem rightS_len {a : List Nat} (ha : ∀ x ∈ a, x < 4294967296) (k : Int) : (rightS a k).1.length ≤ 40 := by
  unfold rightS
  split
  · rename_i h
    split
    · simp
    · exact dig_len_le (by omega) (Nat.lt_of_le_of_lt (Nat.div_le_self _ _) (Nat.lt_of_lt_of_le (val_lt ha) (Nat.pow_le_pow_right (by omega) (mayB_len h))))
  · simp
set_option maxRecDepth 100000 in
set_option maxHeartbeats 8000000 in
theorem LimbShifts.walk (A : Option Addr) (n c : Nat) (a : List Nat) (k : Int) (hk64 : k < 9223372036854775808) (hn : a.length = n) (hnc : n ≤ c) (ha : ∀ x ∈ a, x < 4294967296) (w : World) (hR : Reads w w.heap.size 1 A n (ints .u32 a)) (hT : Tab w) :
    Calls Tryd.prog 3 #[.slice A n c, .int .i64 k] w fun e w' => e = .returned (.bool true) ∧ Below w.heap.size w w' := by
  obtain ⟨i0, hi0, hz0, hz1, hz2⟩ := info_parts infoU32
  by_cases h1 : 42 < n
  · have g1 := great_any A n c true (decide_eq_true (by omega)) w
    clear hR ha hn h1 hT
    go_enter Tryd.func3, Tryd.ntmps3
    go_wp2_with (go_at_call 8; (with_reducible refine g1.mono ?_); rintro e w1 ⟨rfl, rfl⟩)
    go_ret
    exact ⟨rfl, Below.refl _ _⟩
  have g1 := great_any A n c false (decide_eq_false (by omega)) w
  have n42 : n ≤ 42 := by omega
  have gn := Lib.hid hn
  have gha := Lib.hid ha
  obtain ⟨⟨L1, E1⟩, hA1⟩ : ∃ R, leftS a k = R := ⟨_, rfl⟩
  obtain ⟨⟨L2, E2⟩, hA2⟩ : ∃ R, rightS a k = R := ⟨_, rfl⟩
  obtain ⟨⟨C1, C2⟩, hC⟩ : ∃ R, bitsS a = R := ⟨_, rfl⟩
  obtain ⟨⟨D1, D2⟩, hD⟩ : ∃ R, lowS a = R := ⟨_, rfl⟩
  obtain ⟨m1, hm1⟩ : ∃ m, L1.length = m := ⟨_, rfl⟩
  obtain ⟨m2, hm2⟩ : ∃ m, L2.length = m := ⟨_, rfl⟩
  have l1 : m1 ≤ 40 := by have := leftS_len a k; rw [hA1] at this; rw [← hm1]; exact this
  have l2 : m2 ≤ 40 := by have := rightS_len ha k; rw [hA2] at this; rw [← hm2]; exact this
  have kleft : ∀ (X : Option Addr) (d : Nat) (w' : World), n ≤ d → Reads w' w'.heap.size 1 X n (ints .u32 a) → Calls Tryd.prog 9 #[.slice X n d, .int .i64 k] w' fun en w'' => ∃ Ao co, en = .returned (.tuple #[.slice Ao m1 co, .int .i64 E1]) ∧ m1 ≤ co ∧ OwnR w'' w'.heap.size 45 Ao m1 (ints .u32 L1) ∧ Below w'.heap.size w' w'' := by
    intro X d w' hd r1
    refine (Left_any X n d a k gn.out gha.out w' r1).mono ?_
    rw [hA1]
    rintro en w'' ⟨Ao, co, e, h1, h2, h3⟩
    simp only [hm1] at e h1 h2
    exact ⟨Ao, co, e, h1, h2, h3⟩
  have krleft : ∀ (X : Option Addr) (d : Nat) (w' : World), n ≤ d → Reads w' w'.heap.size 1 X n (ints .u32 a) → Calls Tryd.prog 10 #[.slice X n d, .int .i64 k] w' fun en w'' => ∃ Ao co, en = .returned (.tuple #[.slice Ao m1 co, .int .i64 E1]) ∧ m1 ≤ co ∧ Reads w'' w''.heap.size 1 Ao m1 (ints .u32 L1) ∧ Below w'.heap.size w' w'' := by
    intro X d w' hd r1
    refine (rleft_any X n d a gn.out gha.out w' r1 k).mono ?_
    rw [hA1]
    rintro en w'' ⟨Ao, co, e, h1, h2, h3⟩
    simp only [hm1] at e h1 h2
    exact ⟨Ao, co, e, h1, h2, h3⟩
  have kright : ∀ (X : Option Addr) (d : Nat) (w' : World), n ≤ d → Reads w' w'.heap.size 1 X n (ints .u32 a) → Calls Tryd.prog 11 #[.slice X n d, .int .i64 k] w' fun en w'' => ∃ Ao co, en = .returned (.tuple #[.slice Ao m2 co, .int .i64 E2]) ∧ m2 ≤ co ∧ OwnR w'' w'.heap.size 45 Ao m2 (ints .u32 L2) ∧ Below w'.heap.size w' w'' := by
    intro X d w' hd r1
    refine (Right_any X n d a k hk64 gn.out hd gha.out w' r1).mono ?_
    rw [hA2]
    rintro en w'' ⟨Ao, co, e, h1, h2, h3⟩
    simp only [hm2] at e h1 h2
    exact ⟨Ao, co, e, h1, h2, h3⟩
  have krright : ∀ (X : Option Addr) (d : Nat) (w' : World), n ≤ d → Reads w' w'.heap.size 1 X n (ints .u32 a) → Calls Tryd.prog 12 #[.slice X n d, .int .i64 k] w' fun en w'' => ∃ Ao co, en = .returned (.tuple #[.slice Ao m2 co, .int .i64 E2]) ∧ m2 ≤ co ∧ Reads w'' w''.heap.size 1 Ao m2 (ints .u32 L2) ∧ Below w'.heap.size w' w'' := by
    intro X d w' hd r1
    refine (rright_any X n d a gn.out gha.out w' r1 k hk64).mono ?_
    rw [hA2]
    rintro en w'' ⟨Ao, co, e, h1, h2, h3⟩
    simp only [hm2] at e h1 h2
    exact ⟨Ao, co, e, h1, h2, h3⟩
  have kbits : ∀ (X : Option Addr) (d : Nat) (w' : World), Reads w' w'.heap.size 1 X n (ints .u32 a) → Calls Tryd.prog 13 #[.slice X n d] w' fun en w'' => en = .returned (.tuple #[.int .i64 C1, .int .i64 C2]) ∧ Below w'.heap.size w' w'' := by
    intro X d w' r1
    refine (bits_any X n d a gn.out gha.out w' r1).mono ?_
    rw [hC]
    intro en w'' h
    exact h
  have krbits : ∀ (X : Option Addr) (d : Nat) (w' : World), Reads w' w'.heap.size 1 X n (ints .u32 a) → Calls Tryd.prog 14 #[.slice X n d] w' fun en w'' => en = .returned (.tuple #[.int .i64 C1, .int .i64 C2]) ∧ Below w'.heap.size w' w'' := by
    intro X d w' r1
    refine (rbits_any X n d a gn.out gha.out w' r1).mono ?_
    rw [hC]
    intro en w'' h
    exact h
  have klow : ∀ (X : Option Addr) (d : Nat) (w' : World), Tab w' → Reads w' w'.heap.size 1 X n (ints .u32 a) → Calls Tryd.prog 15 #[.slice X n d] w' fun en w'' => en = .returned (.tuple #[.int .i64 D1, .int .i64 D2]) ∧ Below w'.heap.size w' w'' := by
    intro X d w' hTt r1
    refine (low_any X n d a gn.out gha.out w' r1 hTt).mono ?_
    rw [hD]
    intro en w'' h
    exact h
  have krlow : ∀ (X : Option Addr) (d : Nat) (w' : World), Reads w' w'.heap.size 1 X n (ints .u32 a) → Calls Tryd.prog 16 #[.slice X n d] w' fun en w'' => en = .returned (.tuple #[.int .i64 D1, .int .i64 D2]) ∧ Below w'.heap.size w' w'' := by
    intro X d w' r1
    refine (rlow_any X n d a gn.out gha.out w' r1).mono ?_
    rw [hD]
    intro en w'' h
    exact h
  have kyes : ∀ (l : List Nat) (m : Nat) (hl : l.length = m) (hm : m ≤ 100) (X X2 : Option Addr) (d d2 B B2 : Nat) (w' : World), Reads w' B 1 X m (ints .u32 l) → Reads w' B2 1 X2 m (ints .u32 l) → Calls Tryd.prog 17 #[.slice X m d, .slice X2 m d2] w' fun en w'' => en = .returned (.bool true) ∧ ∃ q, w'' = w'.drewN q := by
    intro l m hl hm X X2 d d2 B B2 w' r1 r2
    have h := rsame_any X X2 m m d d2 B B2 l l hl hl (by omega) (by omega) w' r1 r2
    rw [show decide (l = l) = true from decide_eq_true rfl] at h
    exact h
  have gm1 := Lib.hid hm1
  have gm2 := Lib.hid hm2
  have y1 : (C1 == C1) = true := by simp
  have y2 : (C2 == C2) = true := by simp
  have y3 : (E1 == E1) = true := by simp
  have y4 : (E2 == E2) = true := by simp
  have y5 : (D1 == D1) = true := by simp
  have y6 : (D2 == D2) = true := by simp
  clear hC hA1 hA2 hD hm1 hm2 hn ha h1 hk64
  go_enter Tryd.func3, Tryd.ntmps3
  go_wp2_with (first | (go_at_call 8; (with_reducible refine g1.mono ?_); rintro e w1 ⟨rfl, rfl⟩) | (at_builtin; refine wpList_append_any _ rfl (.tmp 25) (.tmp 26) 22 rfl w.heap.size 45 i0 _ 1 4 Tryd.underlying22 hi0 hz0 hz1 hz2 rfl (by omega) (.slice (some ⟨w.heap.size, 0, none⟩) 0 0) 0 [] rfl (owns_new w w.heap.size (Nat.le_refl _) [] 45 0 rfl (Nat.zero_le _)) w.heap.size A n c (ints .u32 a) rfl (hR.alloc (Nat.le_refl _) _) (ints_one _ _) (by unfold maxLen; omega) (by omega) (by rw [World.size_alloc]; omega) ?_; intro v4 w4 ho4 hg4 _; obtain ⟨Ao, co, rfl, hco, ro, b4⟩ := copied ho4 hg4) | fail)
  have ra := (hR.below b4).more b4.size
  have tb := hT.below b4 hT.2
  have bw := b4
  clear hR hT b4 g1 hi0 hz0 hz1 hz2 hg4 ho4
  obtain ⟨V1, hV1⟩ : ∃ V, V = w4 := ⟨_, rfl⟩
  have bwV : w.heap.size ≤ V1.heap.size := by rw [hV1]; exact bw.size
  have bq : Below V1.heap.size V1 w4 := by rw [hV1]; exact Below.refl _ _
  have qo : Reads V1 V1.heap.size 1 Ao n (ints .u32 a) := by rw [hV1]; exact ro
  have qa : Reads V1 V1.heap.size 1 A n (ints .u32 a) := by rw [hV1]; exact ra
  refine (kleft Ao co _ hco ro).mono ?_
  rintro en w5 ⟨X1, x1, rfl, hx1, ox, hb⟩
  rw [← hV1] at ox
  have gV := Lib.hid hV1
  clear hV1
  replace tb := tb.below hb tb.2
  replace ra := (ra.below hb).more hb.size
  replace ro := (ro.below hb).more hb.size
  replace bw := bw.trans (hb.mono bw.size)
  replace bq := bq.trans (hb.mono (Nat.le_trans (Nat.le_refl _) bq.size))
  clear hb
  go_wp2_with fail
  refine (krleft A c _ hnc ra).mono ?_
  rintro en w6 ⟨X2, x2, rfl, hx2, rx, hb⟩
  replace tb := tb.below hb tb.2
  replace ra := (ra.below hb).more hb.size
  replace ro := (ro.below hb).more hb.size
  replace ox := ox.below hb
  replace bw := bw.trans (hb.mono bw.size)
  replace bq := bq.trans (hb.mono (Nat.le_trans (Nat.le_refl _) bq.size))
  clear hb
  go_wp2_with fail
  obtain ⟨V2, hV2⟩ : ∃ V, V = w6 := ⟨_, rfl⟩
  have bq2 : Below V2.heap.size V2 w6 := by rw [hV2]; exact Below.refl _ _
  have hV12 : V1.heap.size ≤ V2.heap.size := by rw [hV2]; exact bq.size
  have oxl := ox.lt
  rw [← hV2] at oxl
  refine (kright Ao co _ hco ro).mono ?_
  rintro en w7 ⟨X3, x3, rfl, hx3, oz, hb⟩
  rw [← hV2] at oz
  have gV2 := Lib.hid hV2
  clear hV2
  replace tb := tb.below hb tb.2
  replace ra := (ra.below hb).more hb.size
  replace ro := (ro.below hb).more hb.size
  replace rx := (rx.below hb).more hb.size
  replace ox := ox.below hb
  replace bw := bw.trans (hb.mono bw.size)
  replace bq := bq.trans (hb.mono (Nat.le_trans (Nat.le_refl _) bq.size))
  replace bq2 := bq2.trans (hb.mono (Nat.le_trans (Nat.le_refl _) bq2.size))
  clear hb
  go_wp2_with fail
  refine (krright A c _ hnc ra).mono ?_
  rintro en w8 ⟨X4, x4, rfl, hx4, rz, hb⟩
  replace tb := tb.below hb tb.2
  replace ra := (ra.below hb).more hb.size
  replace ro := (ro.below hb).more hb.size
  replace rx := (rx.below hb).more hb.size
  replace ox := ox.below hb
  replace oz := oz.below hb
  replace bw := bw.trans (hb.mono bw.size)
  replace bq := bq.trans (hb.mono (Nat.le_trans (Nat.le_refl _) bq.size))
  replace bq2 := bq2.trans (hb.mono (Nat.le_trans (Nat.le_refl _) bq2.size))
  clear hb
  go_wp2_with fail
  refine (kbits Ao co _ ro).mono ?_
  rintro en w9 ⟨rfl, hb⟩
  replace tb := tb.below hb tb.2
  replace ra := (ra.below hb).more hb.size
  replace ro := (ro.below hb).more hb.size
  replace rx := (rx.below hb).more hb.size
  replace rz := (rz.below hb).more hb.size
  replace ox := ox.below hb
  replace oz := oz.below hb
  replace bw := bw.trans (hb.mono bw.size)
  replace bq := bq.trans (hb.mono (Nat.le_trans (Nat.le_refl _) bq.size))
  replace bq2 := bq2.trans (hb.mono (Nat.le_trans (Nat.le_refl _) bq2.size))
  clear hb
  go_wp2_with fail
  refine (krbits A c _ ra).mono ?_
  rintro en w10 ⟨rfl, hb⟩
  replace tb := tb.below hb tb.2
  replace ra := (ra.below hb).more hb.size
  replace ro := (ro.below hb).more hb.size
  replace rx := (rx.below hb).more hb.size
  replace rz := (rz.below hb).more hb.size
  replace ox := ox.below hb
  replace oz := oz.below hb
  replace bw := bw.trans (hb.mono bw.size)
  replace bq := bq.trans (hb.mono (Nat.le_trans (Nat.le_refl _) bq.size))
  replace bq2 := bq2.trans (hb.mono (Nat.le_trans (Nat.le_refl _) bq2.size))
  clear hb
  go_wp2_with fail
  refine (klow Ao co _ tb ro).mono ?_
  rintro en w11 ⟨rfl, hb⟩
  replace tb := tb.below hb tb.2
  replace ra := (ra.below hb).more hb.size
  replace ro := (ro.below hb).more hb.size
  replace rx := (rx.below hb).more hb.size
  replace rz := (rz.below hb).more hb.size
  replace ox := ox.below hb
  replace oz := oz.below hb
  replace bw := bw.trans (hb.mono bw.size)
  replace bq := bq.trans (hb.mono (Nat.le_trans (Nat.le_refl _) bq.size))
  replace bq2 := bq2.trans (hb.mono (Nat.le_trans (Nat.le_refl _) bq2.size))
  clear hb
  go_wp2_with fail
  refine (krlow A c _ ra).mono ?_
  rintro en w12 ⟨rfl, hb⟩
  replace tb := tb.below hb tb.2
  replace ra := (ra.below hb).more hb.size
  replace ro := (ro.below hb).more hb.size
  replace rx := (rx.below hb).more hb.size
  replace rz := (rz.below hb).more hb.size
  replace ox := ox.below hb
  replace oz := oz.below hb
  replace bw := bw.trans (hb.mono bw.size)
  replace bq := bq.trans (hb.mono (Nat.le_trans (Nat.le_refl _) bq.size))
  replace bq2 := bq2.trans (hb.mono (Nat.le_trans (Nat.le_refl _) bq2.size))
  clear hb
  go_wp2_with fail
  refine (kyes _ m1 gm1.out (by omega) X1 X2 x1 x2 _ _ _ ox.reads rx).mono ?_
  rintro en w13 ⟨rfl, q, hq⟩
  have hb : Below w12.heap.size w12 w13 := by rw [hq]; exact below_drewN (Below.refl _ _) q
  clear hq
  replace tb := tb.below hb tb.2
  replace ra := (ra.below hb).more hb.size
  replace ro := (ro.below hb).more hb.size
  replace rx := (rx.below hb).more hb.size
  replace rz := (rz.below hb).more hb.size
  replace ox := ox.below hb
  replace oz := oz.below hb
  replace bw := bw.trans (hb.mono bw.size)
  replace bq := bq.trans (hb.mono (Nat.le_trans (Nat.le_refl _) bq.size))
  replace bq2 := bq2.trans (hb.mono (Nat.le_trans (Nat.le_refl _) bq2.size))
  clear hb
  go_wp2_with fail
  refine (kyes _ m2 gm2.out (by omega) X3 X4 x3 x4 _ _ _ oz.reads rz).mono ?_
  rintro en w14 ⟨rfl, q, hq⟩
  have hb : Below w13.heap.size w13 w14 := by rw [hq]; exact below_drewN (Below.refl _ _) q
  clear hq
  replace tb := tb.below hb tb.2
  replace ra := (ra.below hb).more hb.size
  replace ro := (ro.below hb).more hb.size
  replace rx := (rx.below hb).more hb.size
  replace rz := (rz.below hb).more hb.size
  replace ox := ox.below hb
  replace oz := oz.below hb
  replace bw := bw.trans (hb.mono bw.size)
  replace bq := bq.trans (hb.mono (Nat.le_trans (Nat.le_refl _) bq.size))
  replace bq2 := bq2.trans (hb.mono (Nat.le_trans (Nat.le_refl _) bq2.size))
  clear hb
  go_wp2_with fail
  refine (spoil2 X1 m1 x1 _ L1 (by omega) _ ox).mono ?_
  rintro en w20 ⟨rfl, hs⟩
  replace oz := hs.2 _ _ _ _ oxl oz
  replace bq := bq.trans hs.1
  replace bw := bw.trans (hs.1.mono bwV)
  clear hs ox bq2 tb ra ro rx rz
  go_wp2_with fail
  refine (spoil2 X3 m2 x3 _ L2 (by omega) _ oz).mono ?_
  rintro en w21 ⟨rfl, hs⟩
  replace bq := bq.trans (hs.1.mono hV12)
  replace bw := bw.trans (hs.1.mono (Nat.le_trans bwV hV12))
  clear hs oz
  go_wp2_with fail
  refine (kyes _ n gn.out (by omega) Ao A co c _ _ _ (qo.below bq) (qa.below bq)).mono ?_
  rintro en w22 ⟨rfl, q, hq⟩
  have hb : Below w21.heap.size w21 w22 := by rw [hq]; exact below_drewN (Below.refl _ _) q
  clear hq
  replace bw := bw.trans (hb.mono bw.size)
  replace bq := bq.trans (hb.mono (Nat.le_trans (Nat.le_refl _) bq.size))
  clear hb
  go_wp2
  go_ret
  exact ⟨rfl, bw⟩
end Go.Proofs.YtaklmkjldmbleaaDoor
