/- Limb: the walk of the law LimbTimes. -/
import Derived.Test.YtaklmkjldmbleaaW
import Derived.Test.YtaklmkjldmbleaaE
namespace Go.Proofs.Ytaklmkjldmbleaa
open Go.ChangeShapes Go.WideShapes Go.ChangeAt Go.RowKit
set_option linter.unusedSimpArgs false
set_option linter.unusedVariables false
theorem mulS_len (a b : List Nat) : (mulS a b).1.length ≤ 40 := by unfold mulS; split; exact over_len _; simp
theorem divS_len {a b : List Nat} (ha : ∀ x ∈ a, x < 4294967296) : (divS a b).1.length ≤ 40 ∧ (divS a b).2.1.length ≤ 40 := by
  unfold divS
  split
  · rename_i h
    split
    · simp
    · unfold both at h
      simp only [Bool.and_eq_true] at h
      have hv := Nat.lt_of_lt_of_le (val_lt ha) (show _ ≤ 4294967296 ^ 40 from Nat.pow_le_pow_right (by omega) (mayB_len h.1))
      exact ⟨dig_len_le (by omega) (Nat.lt_of_le_of_lt (Nat.div_le_self _ _) hv), dig_len_le (by omega) (Nat.lt_of_le_of_lt (Nat.mod_le _ _) hv)⟩
  · simp
set_option maxRecDepth 100000 in
set_option maxHeartbeats 8000000 in
theorem LimbTimes.walk (A A2 : Option Addr) (n n2 c c2 : Nat) (a b : List Nat) (hn : a.length = n) (hn2 : b.length = n2) (hnc : n ≤ c) (hnc2 : n2 ≤ c2) (ha : ∀ x ∈ a, x < 4294967296) (hb : ∀ x ∈ b, x < 4294967296) (w : World) (hR : Reads w w.heap.size 1 A n (ints .u32 a)) (hR2 : Reads w w.heap.size 1 A2 n2 (ints .u32 b)) :
    Calls Try.prog 4 #[.slice A n c, .slice A2 n2 c2] w fun e w' => e = .returned (.bool true) ∧ Below w.heap.size w w' := by
  obtain ⟨i0, hi0, hz0, hz1, hz2⟩ := info_parts infoU32
  by_cases h1 : 42 < n
  · have g1 := great_any A n c true (decide_eq_true (by omega)) w
    clear hR hR2 ha hb hn hn2 h1
    go_enter Try.func4, Try.ntmps4
    go_wp2_with (go_at_call 5; (with_reducible refine g1.mono ?_); rintro e w1 ⟨rfl, rfl⟩)
    go_ret
    exact ⟨rfl, Below.refl _ _⟩
  have g1 := great_any A n c false (decide_eq_false (by omega)) w
  by_cases h2 : 42 < n2
  · have g2 := great_any A2 n2 c2 true (decide_eq_true (by omega)) w
    clear hR hR2 ha hb hn hn2 h1 h2
    go_enter Try.func4, Try.ntmps4
    go_wp2_with (first | (go_at_call 5; (with_reducible refine g1.mono ?_); rintro e w1 ⟨rfl, rfl⟩) | (go_at_call 5; (with_reducible refine g2.mono ?_); rintro e w1 ⟨rfl, rfl⟩))
    go_ret
    exact ⟨rfl, Below.refl _ _⟩
  have g2 := great_any A2 n2 c2 false (decide_eq_false (by omega)) w
  have n42 : n ≤ 42 := by omega
  have m42 : n2 ≤ 42 := by omega
  have gn := Lib.hid hn
  have gn2 := Lib.hid hn2
  have gha := Lib.hid ha
  have ghb := Lib.hid hb
  obtain ⟨⟨L1, E1⟩, hA1⟩ : ∃ R, mulS a b = R := ⟨_, rfl⟩
  obtain ⟨⟨L2, L3, E2⟩, hA2⟩ : ∃ R, divS a b = R := ⟨_, rfl⟩
  obtain ⟨m1, hm1⟩ : ∃ m, L1.length = m := ⟨_, rfl⟩
  obtain ⟨m2, hm2⟩ : ∃ m, L2.length = m := ⟨_, rfl⟩
  obtain ⟨m3, hm3⟩ : ∃ m, L3.length = m := ⟨_, rfl⟩
  have l1 : m1 ≤ 40 := by have := mulS_len a b; rw [hA1] at this; rw [← hm1]; exact this
  have l2 : m2 ≤ 40 := by have := (divS_len (b := b) ha).1; rw [hA2] at this; rw [← hm2]; exact this
  have l3 : m3 ≤ 40 := by have := (divS_len (b := b) ha).2; rw [hA2] at this; rw [← hm3]; exact this
  have kmul : ∀ (X X2 : Option Addr) (d d2 : Nat) (w' : World), Reads w' w'.heap.size 1 X n (ints .u32 a) → Reads w' w'.heap.size 1 X2 n2 (ints .u32 b) → Calls Try.prog 19 #[.slice X n d, .slice X2 n2 d2] w' fun en w'' => ∃ Ao co, en = .returned (.tuple #[.slice Ao m1 co, .int .i64 E1]) ∧ m1 ≤ co ∧ OwnR w'' w'.heap.size 49 Ao m1 (ints .u32 L1) ∧ Below w'.heap.size w' w'' := by
    intro X X2 d d2 w' r1 r2
    refine (mul_any X X2 n n2 d d2 a b gn.out gn2.out ha hb w' r1 r2).mono ?_
    rw [hA1]
    rintro en w'' ⟨Ao, co, e, h1, h2, h3⟩
    simp only [hm1] at e h1 h2
    exact ⟨Ao, co, e, h1, h2, h3⟩
  have krmul : ∀ (X X2 : Option Addr) (d d2 : Nat) (w' : World), Reads w' w'.heap.size 1 X n (ints .u32 a) → Reads w' w'.heap.size 1 X2 n2 (ints .u32 b) → Calls Try.prog 20 #[.slice X n d, .slice X2 n2 d2] w' fun en w'' => ∃ Ao co, en = .returned (.tuple #[.slice Ao m1 co, .int .i64 E1]) ∧ m1 ≤ co ∧ Reads w'' w''.heap.size 1 Ao m1 (ints .u32 L1) ∧ Below w'.heap.size w' w'' := by
    intro X X2 d d2 w' r1 r2
    refine (rmul_any X X2 n n2 d d2 a b gn.out gn2.out ha hb w' r1 r2).mono ?_
    rw [hA1]
    rintro en w'' ⟨Ao, co, e, h1, h2, h3⟩
    simp only [hm1] at e h1 h2
    exact ⟨Ao, co, e, h1, h2, h3⟩
  have kdiv : ∀ (X X2 : Option Addr) (d d2 : Nat) (w' : World), Reads w' w'.heap.size 1 X n (ints .u32 a) → Reads w' w'.heap.size 1 X2 n2 (ints .u32 b) → Calls Try.prog 21 #[.slice X n d, .slice X2 n2 d2] w' fun en w'' => ∃ Ao co Ar cr, en = .returned (.tuple #[.slice Ao m2 co, .slice Ar m3 cr, .int .i64 E2]) ∧ OwnR w'' w'.heap.size 49 Ao m2 (ints .u32 L2) ∧ OwnR w'' w'.heap.size 49 Ar m3 (ints .u32 L3) ∧ Apart Ar m3 Ao m2 ∧ Below w'.heap.size w' w'' := by
    intro X X2 d d2 w' r1 r2
    refine (div_any X X2 n n2 d d2 a b gn.out gn2.out ha hb w' r1 r2).mono ?_
    rw [hA2]
    rintro en w'' ⟨Ao, co, Ar, cr, e, h1, h2, h4, h3⟩
    simp only [hm2, hm3] at e h1 h2 h4
    exact ⟨Ao, co, Ar, cr, e, h1, h2, h4, h3⟩
  have krdiv : ∀ (X X2 : Option Addr) (d d2 : Nat) (w' : World), Reads w' w'.heap.size 1 X n (ints .u32 a) → Reads w' w'.heap.size 1 X2 n2 (ints .u32 b) → Calls Try.prog 22 #[.slice X n d, .slice X2 n2 d2] w' fun en w'' => ∃ Ao co Ar cr, en = .returned (.tuple #[.slice Ao m2 co, .slice Ar m3 cr, .int .i64 E2]) ∧ Reads w'' w''.heap.size 1 Ao m2 (ints .u32 L2) ∧ Reads w'' w''.heap.size 1 Ar m3 (ints .u32 L3) ∧ Below w'.heap.size w' w'' := by
    intro X X2 d d2 w' r1 r2
    refine (rdiv_any X X2 n n2 d d2 a b gn.out gn2.out ha hb w' r1 r2).mono ?_
    rw [hA2]
    rintro en w'' ⟨Ao, co, Ar, cr, e, h1, h2, h3⟩
    simp only [hm2, hm3] at e h1 h2
    exact ⟨Ao, co, Ar, cr, e, h1, h2, h3⟩
  have kyes : ∀ (l : List Nat) (m : Nat) (hl : l.length = m) (hm : m ≤ 100) (X X2 : Option Addr) (d d2 B B2 : Nat) (w' : World), Reads w' B 1 X m (ints .u32 l) → Reads w' B2 1 X2 m (ints .u32 l) → Calls Try.prog 14 #[.slice X m d, .slice X2 m d2] w' fun en w'' => en = .returned (.bool true) ∧ ∃ q, w'' = w'.drewN q := by
    intro l m hl hm X X2 d d2 B B2 w' r1 r2
    have h := rsame_any X X2 m m d d2 B B2 l l hl hl (by omega) (by omega) w' r1 r2
    rw [show decide (l = l) = true from decide_eq_true rfl] at h
    exact h
  have gm1 := Lib.hid hm1
  have gm2 := Lib.hid hm2
  have gm3 := Lib.hid hm3
  have y3 : (E1 == E1) = true := by simp
  have y4 : (E2 == E2) = true := by simp
  clear hA1 hA2 hm1 hm2 hm3 hn hn2 ha hb h1 h2
  go_enter Try.func4, Try.ntmps4
  go_wp2_with (first | (go_at_call 5; (with_reducible refine g1.mono ?_); rintro e w1 ⟨rfl, rfl⟩) | (go_at_call 5; (with_reducible refine g2.mono ?_); rintro e w1 ⟨rfl, rfl⟩) | (at_builtin; refine wpList_append_any _ rfl (.tmp 24) (.tmp 25) 22 rfl w.heap.size 49 i0 _ 1 4 Try.underlying22 hi0 hz0 hz1 hz2 rfl (by omega) (.slice (some ⟨w.heap.size, 0, none⟩) 0 0) 0 [] rfl (owns_new w w.heap.size (Nat.le_refl _) [] 49 0 rfl (Nat.zero_le _)) w.heap.size A n c (ints .u32 a) rfl (hR.alloc (Nat.le_refl _) _) (ints_one _ _) (by unfold maxLen; omega) (by omega) (by rw [World.size_alloc]; omega) ?_; intro v4 w4 ho4 hg4 _; obtain ⟨Ao, co, rfl, hco, ro, b4⟩ := copied ho4 hg4) | (at_builtin; refine wpList_append_any _ rfl (.tmp 27) (.tmp 28) 22 rfl w4.heap.size 49 i0 _ 1 4 Try.underlying22 hi0 hz0 hz1 hz2 rfl (by omega) (.slice (some ⟨w4.heap.size, 0, none⟩) 0 0) 0 [] rfl (owns_new w4 w4.heap.size (Nat.le_refl _) [] 49 0 rfl (Nat.zero_le _)) w4.heap.size A2 n2 c2 (ints .u32 b) rfl (((hR2.below b4).more b4.size).alloc (Nat.le_refl _) _) (ints_one _ _) (by unfold maxLen; omega) (by omega) (by rw [World.size_alloc]; omega) ?_; intro v5 w5 ho5 hg5 _; obtain ⟨Ap, cp, rfl, hcp, rp, b5⟩ := copied ho5 hg5) | fail)
  have ra := (hR.below b4).more b4.size
  replace ra := (ra.below b5).more b5.size
  have rb := (hR2.below b4).more b4.size
  replace rb := (rb.below b5).more b5.size
  replace ro := (ro.below b5).more b5.size
  have bw := b4.trans (b5.mono b4.size)
  clear hR hR2 b4 b5 g1 g2 hi0 hz0 hz1 hz2 hg4 hg5 ho4 ho5
  obtain ⟨V1, hV1⟩ : ∃ V, V = w5 := ⟨_, rfl⟩
  have bwV : w.heap.size ≤ V1.heap.size := by rw [hV1]; exact bw.size
  have bq : Below V1.heap.size V1 w5 := by rw [hV1]; exact Below.refl _ _
  have qo : Reads V1 V1.heap.size 1 Ao n (ints .u32 a) := by rw [hV1]; exact ro
  have qp : Reads V1 V1.heap.size 1 Ap n2 (ints .u32 b) := by rw [hV1]; exact rp
  have qa : Reads V1 V1.heap.size 1 A n (ints .u32 a) := by rw [hV1]; exact ra
  have qb : Reads V1 V1.heap.size 1 A2 n2 (ints .u32 b) := by rw [hV1]; exact rb
  refine (kmul Ao Ap co cp _ ro rp).mono ?_
  rintro en w6 ⟨X1, x1, rfl, hx1, ox, hb⟩
  rw [← hV1] at ox
  have gV := Lib.hid hV1
  clear hV1
  replace ra := (ra.below hb).more hb.size
  replace rb := (rb.below hb).more hb.size
  replace ro := (ro.below hb).more hb.size
  replace rp := (rp.below hb).more hb.size
  replace bw := bw.trans (hb.mono bw.size)
  replace bq := bq.trans (hb.mono (Nat.le_trans (Nat.le_refl _) bq.size))
  clear hb
  go_wp2_with fail
  refine (krmul A A2 c c2 _ ra rb).mono ?_
  rintro en w7 ⟨X2, x2, rfl, hx2, rx, hb⟩
  replace ra := (ra.below hb).more hb.size
  replace rb := (rb.below hb).more hb.size
  replace ro := (ro.below hb).more hb.size
  replace rp := (rp.below hb).more hb.size
  replace ox := ox.below hb
  replace bw := bw.trans (hb.mono bw.size)
  replace bq := bq.trans (hb.mono (Nat.le_trans (Nat.le_refl _) bq.size))
  clear hb
  go_wp2_with fail
  obtain ⟨V2, hV2⟩ : ∃ V, V = w7 := ⟨_, rfl⟩
  have bq2 : Below V2.heap.size V2 w7 := by rw [hV2]; exact Below.refl _ _
  have hV12 : V1.heap.size ≤ V2.heap.size := by rw [hV2]; exact bq.size
  have oxl := ox.lt
  rw [← hV2] at oxl
  refine (kdiv Ao Ap co cp _ ro rp).mono ?_
  rintro en w8 ⟨X3, x3, X5, x5, rfl, oq, or', hap, hb⟩
  rw [← hV2] at oq or'
  have gV2 := Lib.hid hV2
  clear hV2
  replace ra := (ra.below hb).more hb.size
  replace rb := (rb.below hb).more hb.size
  replace ro := (ro.below hb).more hb.size
  replace rp := (rp.below hb).more hb.size
  replace rx := (rx.below hb).more hb.size
  replace ox := ox.below hb
  replace bw := bw.trans (hb.mono bw.size)
  replace bq := bq.trans (hb.mono (Nat.le_trans (Nat.le_refl _) bq.size))
  replace bq2 := bq2.trans (hb.mono (Nat.le_trans (Nat.le_refl _) bq2.size))
  clear hb
  go_wp2_with fail
  refine (krdiv A A2 c c2 _ ra rb).mono ?_
  rintro en w9 ⟨X4, x4, X6, x6, rfl, rq, rr, hb⟩
  replace ra := (ra.below hb).more hb.size
  replace rb := (rb.below hb).more hb.size
  replace ro := (ro.below hb).more hb.size
  replace rp := (rp.below hb).more hb.size
  replace rx := (rx.below hb).more hb.size
  replace ox := ox.below hb
  replace oq := oq.below hb
  replace or' := or'.below hb
  replace bw := bw.trans (hb.mono bw.size)
  replace bq := bq.trans (hb.mono (Nat.le_trans (Nat.le_refl _) bq.size))
  replace bq2 := bq2.trans (hb.mono (Nat.le_trans (Nat.le_refl _) bq2.size))
  clear hb
  go_wp2_with fail
  refine (kyes _ m1 gm1.out (by omega) X1 X2 x1 x2 _ _ _ ox.reads rx).mono ?_
  rintro en w10 ⟨rfl, q, hq⟩
  have hb : Below w9.heap.size w9 w10 := by rw [hq]; exact below_drewN (Below.refl _ _) q
  clear hq
  replace ra := (ra.below hb).more hb.size
  replace rb := (rb.below hb).more hb.size
  replace ro := (ro.below hb).more hb.size
  replace rp := (rp.below hb).more hb.size
  replace rx := (rx.below hb).more hb.size
  replace rq := (rq.below hb).more hb.size
  replace rr := (rr.below hb).more hb.size
  replace ox := ox.below hb
  replace oq := oq.below hb
  replace or' := or'.below hb
  replace bw := bw.trans (hb.mono bw.size)
  replace bq := bq.trans (hb.mono (Nat.le_trans (Nat.le_refl _) bq.size))
  replace bq2 := bq2.trans (hb.mono (Nat.le_trans (Nat.le_refl _) bq2.size))
  clear hb
  go_wp2_with fail
  refine (kyes _ m2 gm2.out (by omega) X3 X4 x3 x4 _ _ _ oq.reads rq).mono ?_
  rintro en w11 ⟨rfl, q, hq⟩
  have hb : Below w10.heap.size w10 w11 := by rw [hq]; exact below_drewN (Below.refl _ _) q
  clear hq
  replace ra := (ra.below hb).more hb.size
  replace rb := (rb.below hb).more hb.size
  replace ro := (ro.below hb).more hb.size
  replace rp := (rp.below hb).more hb.size
  replace rx := (rx.below hb).more hb.size
  replace rq := (rq.below hb).more hb.size
  replace rr := (rr.below hb).more hb.size
  replace ox := ox.below hb
  replace oq := oq.below hb
  replace or' := or'.below hb
  replace bw := bw.trans (hb.mono bw.size)
  replace bq := bq.trans (hb.mono (Nat.le_trans (Nat.le_refl _) bq.size))
  replace bq2 := bq2.trans (hb.mono (Nat.le_trans (Nat.le_refl _) bq2.size))
  clear hb
  go_wp2_with fail
  refine (kyes _ m3 gm3.out (by omega) X5 X6 x5 x6 _ _ _ or'.reads rr).mono ?_
  rintro en w12 ⟨rfl, q, hq⟩
  have hb : Below w11.heap.size w11 w12 := by rw [hq]; exact below_drewN (Below.refl _ _) q
  clear hq
  replace ra := (ra.below hb).more hb.size
  replace rb := (rb.below hb).more hb.size
  replace ro := (ro.below hb).more hb.size
  replace rp := (rp.below hb).more hb.size
  replace rx := (rx.below hb).more hb.size
  replace rq := (rq.below hb).more hb.size
  replace rr := (rr.below hb).more hb.size
  replace ox := ox.below hb
  replace oq := oq.below hb
  replace or' := or'.below hb
  replace bw := bw.trans (hb.mono bw.size)
  replace bq := bq.trans (hb.mono (Nat.le_trans (Nat.le_refl _) bq.size))
  replace bq2 := bq2.trans (hb.mono (Nat.le_trans (Nat.le_refl _) bq2.size))
  clear hb
  go_wp2_with fail
  refine (spoil2 X1 m1 x1 _ L1 (by omega) _ ox).mono ?_
  rintro en w20 ⟨rfl, hs⟩
  replace oq := hs.2 _ _ _ _ oxl oq
  replace or' := hs.2 _ _ _ _ oxl or'
  replace bq := bq.trans hs.1
  replace bw := bw.trans (hs.1.mono bwV)
  clear hs ox bq2 ra rb ro rp rx rq rr
  go_wp2_with fail
  refine (spoil3 X3 m2 x3 _ L2 (by omega) _ oq).mono ?_
  rintro en w21 ⟨rfl, hs⟩
  replace or' := hs.2 _ _ _ _ hap or'
  replace bq := bq.trans (hs.1.mono hV12)
  replace bw := bw.trans (hs.1.mono (Nat.le_trans bwV hV12))
  clear hs oq
  go_wp2_with fail
  refine (spoil3 X5 m3 x5 _ L3 (by omega) _ or').mono ?_
  rintro en w22 ⟨rfl, hs⟩
  replace bq := bq.trans (hs.1.mono hV12)
  replace bw := bw.trans (hs.1.mono (Nat.le_trans bwV hV12))
  clear hs or'
  go_wp2_with fail
  refine (kyes _ n gn.out (by omega) Ao A co c _ _ _ (qo.below bq) (qa.below bq)).mono ?_
  rintro en w23 ⟨rfl, q, hq⟩
  have hb : Below w22.heap.size w22 w23 := by rw [hq]; exact below_drewN (Below.refl _ _) q
  clear hq
  replace bw := bw.trans (hb.mono bw.size)
  replace bq := bq.trans (hb.mono (Nat.le_trans (Nat.le_refl _) bq.size))
  clear hb
  go_wp2_with fail
  refine (kyes _ n2 gn2.out (by omega) Ap A2 cp c2 _ _ _ (qp.below bq) (qb.below bq)).mono ?_
  rintro en w24 ⟨rfl, q, hq⟩
  have hb : Below w23.heap.size w23 w24 := by rw [hq]; exact below_drewN (Below.refl _ _) q
  clear hq
  replace bw := bw.trans (hb.mono bw.size)
  replace bq := bq.trans (hb.mono (Nat.le_trans (Nat.le_refl _) bq.size))
  clear hb
  go_wp2
  go_ret
  exact ⟨rfl, bw⟩
end Go.Proofs.Ytaklmkjldmbleaa
