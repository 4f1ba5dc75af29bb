/- Limb: the walk of the law LimbTells. -/
import Derived.Test.YtaklmkjldmbleaaV
namespace Go.Proofs.Ytaklmkjldmbleaa
open Go.ChangeShapes Go.WideShapes Go.ChangeAt Go.RowKit
set_option linter.unusedSimpArgs false
set_option linter.unusedVariables false
theorem OwnR.lt {w : World} {base n : Nat} {e : TypeId} {A : Option Addr} {xs : List Value} (h : OwnR w base e A n xs) : ∀ g, A = some ⟨g, 0, none⟩ → 0 < n → g < w.heap.size := by
  intro g hA h0
  obtain ⟨g', cur, hA', _, hh, _⟩ := h.2 h0
  rw [hA] at hA'
  injection hA' with hA'
  injection hA' with hA' _ _
  rw [hA']
  exact hh.lt
theorem own_drewN {w : World} {base n : Nat} {e : TypeId} {A : Option Addr} {xs : List Value} (h : OwnR w base e A n xs) (q : Nat) : OwnR (w.drewN q) base e A n xs := h
/-- What spoil leaves: all below, and rows that begin behind it. -/
def Spoilt (w : World) (base n : Nat) (A : Option Addr) (w' : World) : Prop :=
  Below base w w' ∧ ∀ base' A' n' xs', (∀ g, A = some ⟨g, 0, none⟩ → 0 < n → g < base') → OwnR w base' 49 A' n' xs' → OwnR w' base' 49 A' n' xs'
theorem OwnR.far {w : World} {base n : Nat} {e : TypeId} {A : Option Addr} {xs : List Value} (h : OwnR w base e A n xs) {p : Addr} (hp : p.block < base) (u : Value) : OwnR (w.setCell p u) base e A n xs :=
  ⟨h.1, fun h0 => by obtain ⟨g, cur, hA, hg, hh, ht⟩ := h.2 h0; exact ⟨g, cur, hA, hg, hh.far (by omega) u, ht⟩⟩
set_option maxHeartbeats 4000000 in
theorem spoil2 (A : Option Addr) (n c base : Nat) (xs : List Nat) (hm : n ≤ 100000) (w : World) (hO : OwnR w base 49 A n (ints .u32 xs)) :
    Calls Try.prog 18 #[.slice A n c] w fun en w' => en = .returned (.tuple #[]) ∧ Spoilt w base n A w' := by
  go_enter Try.func18, Try.ntmps18
  go_wp2
  go_loopw [2] (fun i wr => ∃ (k : Nat) (L : List Nat), k ≤ n ∧ i = .int .i64 (k : Int) ∧ OwnR wr base 49 A n (ints .u32 L) ∧ Spoilt w base n A wr) (fun i _ => n - (intOf i).toNat)
  case atStart => exact ⟨0, xs, Nat.zero_le _, rfl, hO, Below.refl _ _, fun _ _ _ _ _ h => h⟩
  case round =>
    clear hO
    obtain ⟨k, L, hk, rfl, hO, hB⟩ := hrel
    by_cases hlt : k < n
    · obtain ⟨g, rfl, hb, hl, hc, hf, hs⟩ := hO.at_ hlt
      have hLl : L.length = n := by have := hO.1; simpa using this
      rw [ints_at .u32 (by omega)] at hc
      have hs7 := hs (.int .u32 7)
      rw [show (ints .u32 L).set k (.int .u32 7) = ints .u32 (L.set k 7) by simp [ints, List.map_set]] at hs7
      have hB7 : Spoilt w base n (some ⟨g, 0, none⟩) (wr.setCell ⟨g, k, none⟩ (.int .u32 7)) := ⟨hB.1.setCell (p := ⟨g, k, none⟩) hb (.int .u32 7), fun base' A' n' xs' h1 h2 => (hB.2 base' A' n' xs' h1 h2).far (p := ⟨g, k, none⟩) (h1 g rfl (by omega)) _⟩
      have i1 : (0 : Int) ≤ k := by omega
      have i2 : (k : Int) < n := by omega
      obtain ⟨u, hu⟩ : ∃ u, L.getD k 0 = u := ⟨_, rfl⟩
      rw [hu] at hc
      clear hO hs hu hLl hB
      go_wp2
      go_roundw
      case rel => exact ⟨k + 1, L.set k 7, by omega, by go_num, hs7, hB7⟩
      case measure => simp [intOf] <;> omega
    · obtain rfl : k = n := by omega
      clear hO
      go_wp2
      go_end0
      exact ⟨rfl, hB⟩
theorem great_any (A : Option Addr) (n c : Nat) (G : Bool) (hG : decide ((42 : Int) < n) = G) (w : World) :
    Calls Try.prog 5 #[.slice A n c] w fun en w' => en = .returned (.bool G) ∧ w = w' := by
  have hG2 : decide (42 < n) = G := by rw [← hG]; exact decide_eq_decide.2 (by omega)
  go_enter Try.func5, Try.ntmps5
  go_wp2
  go_ret
  first | exact ⟨rfl, rfl⟩ | exact ⟨by rw [← hG2], rfl⟩
theorem over_len (N : Nat) : (overS N).1.length ≤ 40 := by unfold overS; split <;> simp <;> omega
theorem addS_len (a b : List Nat) : (addS a b).1.length ≤ 40 := by unfold addS; split; exact over_len _; simp
theorem subS_len {a b : List Nat} (ha : ∀ x ∈ a, x < 4294967296) : (subS a b).1.length ≤ 40 := by
  unfold subS
  split
  · rename_i h
    split
    · simp
    · unfold both at h
      simp only [Bool.and_eq_true] at h
      exact dig_len_le (by omega) (Nat.lt_of_le_of_lt (Nat.sub_le _ _) (Nat.lt_of_lt_of_le (val_lt ha) (Nat.pow_le_pow_right (by omega) (mayB_len h.1))))
  · simp
/-- What a copy leaves: a row of one's own. -/
def Copied (w : World) (n : Nat) (a : List Nat) (A : Option Addr) (c : Nat) (w' : World) : Prop := n ≤ c ∧ Reads w' w'.heap.size 1 A n (ints .u32 a) ∧ Below w.heap.size w w'
theorem copied {w w' : World} {v' : Value} {n : Nat} {a : List Nat} (ho : w'.ownsRow w.heap.size 49 1 v' (0 + n) ([] ++ ints .u32 a)) (hg : (w.alloc (.cells #[] 49)).grownBy w' (Value.slice (some ⟨w.heap.size, 0, none⟩) 0 0).ownBlock) : ∃ A c, v' = .slice A n c ∧ Copied w n a A c w' := by
  rw [Nat.zero_add, List.nil_append] at ho
  obtain ⟨A, c, rfl, hc, hr⟩ := own_slice ho
  refine ⟨A, c, rfl, hc, hr, Below.grown ((Below.refl w.heap.size w).alloc (Nat.le_refl _) _) hg (by rw [World.size_alloc]; omega) ?_⟩
  intro q hq
  simp [Value.ownBlock] at hq
  omega
set_option maxRecDepth 100000 in
set_option maxHeartbeats 8000000 in
theorem LimbTells.walk (A A2 : Option Addr) (n n2 c c2 : Nat) (a b : List Nat) (hn : a.length = n) (hn2 : b.length = n2) (hnc : n ≤ c) (hnc2 : n2 ≤ c2) (ha : ∀ x ∈ a, x < 4294967296) (hb : ∀ x ∈ b, x < 4294967296) (x : Nat) (hx : x < 18446744073709551616) (w : World) (hR : Reads w w.heap.size 1 A n (ints .u32 a)) (hR2 : Reads w w.heap.size 1 A2 n2 (ints .u32 b)) :
    Calls Try.prog 3 #[.slice A n c, .slice A2 n2 c2, .int .u64 (x : Int)] w fun e w' => e = .returned (.bool true) ∧ Below w.heap.size w w' := by
  obtain ⟨i0, hi0, hz0, hz1, hz2⟩ := info_parts infoU32
  by_cases h1 : 42 < n
  · have g1 := great_any A n c true (decide_eq_true (by omega)) w
    clear hR hR2 ha hb hn hn2 h1 hx
    go_enter Try.func3, Try.ntmps3
    go_wp2_with (go_at_call 5; (with_reducible refine g1.mono ?_); rintro e w1 ⟨rfl, rfl⟩)
    go_ret
    exact ⟨rfl, Below.refl _ _⟩
  have g1 := great_any A n c false (decide_eq_false (by omega)) w
  by_cases h2 : 42 < n2
  · have g2 := great_any A2 n2 c2 true (decide_eq_true (by omega)) w
    clear hR hR2 ha hb hn hn2 h1 hx h2
    go_enter Try.func3, Try.ntmps3
    go_wp2_with (first | (go_at_call 5; (with_reducible refine g1.mono ?_); rintro e w1 ⟨rfl, rfl⟩) | (go_at_call 5; (with_reducible refine g2.mono ?_); rintro e w1 ⟨rfl, rfl⟩))
    go_ret
    exact ⟨rfl, Below.refl _ _⟩
  have g2 := great_any A2 n2 c2 false (decide_eq_false (by omega)) w
  have n42 : n ≤ 42 := by omega
  have m42 : n2 ≤ 42 := by omega
  have gn := Lib.hid hn
  have gn2 := Lib.hid hn2
  have gha := Lib.hid ha
  have ghb := Lib.hid hb
  obtain ⟨⟨C1, C2⟩, hC⟩ : ∃ R, cmpS a b = R := ⟨_, rfl⟩
  obtain ⟨⟨L1, E1⟩, hA1⟩ : ∃ R, addS a b = R := ⟨_, rfl⟩
  obtain ⟨⟨L2, E2⟩, hA2⟩ : ∃ R, subS a b = R := ⟨_, rfl⟩
  obtain ⟨m1, hm1⟩ : ∃ m, L1.length = m := ⟨_, rfl⟩
  obtain ⟨m2, hm2⟩ : ∃ m, L2.length = m := ⟨_, rfl⟩
  obtain ⟨m3, hm3⟩ : ∃ m, (dig 4294967296 x).length = m := ⟨_, rfl⟩
  have l1 : m1 ≤ 40 := by have := addS_len a b; rw [hA1] at this; rw [← hm1]; exact this
  have l2 : m2 ≤ 40 := by have := subS_len (b := b) ha; rw [hA2] at this; rw [← hm2]; exact this
  have l3 : m3 ≤ 2 := by rw [← hm3]; exact dig_len_le (by omega) (by omega)
  obtain ⟨Em, hEm⟩ : ∃ E, mayE a = E := ⟨_, rfl⟩
  obtain ⟨Q, hQ⟩ : ∃ Q, decide (a = b) = Q := ⟨_, rfl⟩
  have kcmp : ∀ (X X2 : Option Addr) (d d2 : Nat) (w' : World), Reads w' w'.heap.size 1 X n (ints .u32 a) → Reads w' w'.heap.size 1 X2 n2 (ints .u32 b) → Calls Try.prog 6 #[.slice X n d, .slice X2 n2 d2] w' fun en w'' => en = .returned (.tuple #[.int .i64 C1, .int .i64 C2]) ∧ Below w'.heap.size w' w'' := by
    intro X X2 d d2 w' r1 r2
    refine (cmp_any X X2 n n2 d d2 a b gn.out gn2.out ha hb w' r1 r2).mono ?_
    rw [hC]
    intro en w'' h
    exact h
  have krcmp : ∀ (X X2 : Option Addr) (d d2 : Nat) (w' : World), Reads w' w'.heap.size 1 X n (ints .u32 a) → Reads w' w'.heap.size 1 X2 n2 (ints .u32 b) → Calls Try.prog 7 #[.slice X n d, .slice X2 n2 d2] w' fun en w'' => en = .returned (.tuple #[.int .i64 C1, .int .i64 C2]) ∧ Below w'.heap.size w' w'' := by
    intro X X2 d d2 w' r1 r2
    refine (rcmp_any X X2 n n2 d d2 a b gn.out gn2.out ha hb w' r1 r2).mono ?_
    rw [hC]
    intro en w'' h
    exact h
  have kadd : ∀ (X X2 : Option Addr) (d d2 : Nat) (w' : World), Reads w' w'.heap.size 1 X n (ints .u32 a) → Reads w' w'.heap.size 1 X2 n2 (ints .u32 b) → Calls Try.prog 8 #[.slice X n d, .slice X2 n2 d2] w' fun en w'' => ∃ Ao co, en = .returned (.tuple #[.slice Ao m1 co, .int .i64 E1]) ∧ m1 ≤ co ∧ OwnR w'' w'.heap.size 49 Ao m1 (ints .u32 L1) ∧ Below w'.heap.size w' w'' := by
    intro X X2 d d2 w' r1 r2
    refine (add_any X X2 n n2 d d2 a b gn.out gn2.out ha hb w' r1 r2).mono ?_
    rw [hA1]
    rintro en w'' ⟨Ao, co, e, h1, h2, h3⟩
    simp only [hm1] at e h1 h2
    exact ⟨Ao, co, e, h1, h2, h3⟩
  have kradd : ∀ (X X2 : Option Addr) (d d2 : Nat) (w' : World), Reads w' w'.heap.size 1 X n (ints .u32 a) → Reads w' w'.heap.size 1 X2 n2 (ints .u32 b) → Calls Try.prog 9 #[.slice X n d, .slice X2 n2 d2] w' fun en w'' => ∃ Ao co, en = .returned (.tuple #[.slice Ao m1 co, .int .i64 E1]) ∧ m1 ≤ co ∧ Reads w'' w''.heap.size 1 Ao m1 (ints .u32 L1) ∧ Below w'.heap.size w' w'' := by
    intro X X2 d d2 w' r1 r2
    refine (radd_any X X2 n n2 d d2 a b gn.out gn2.out ha hb w' r1 r2).mono ?_
    rw [hA1]
    rintro en w'' ⟨Ao, co, e, h1, h2, h3⟩
    simp only [hm1] at e h1 h2
    exact ⟨Ao, co, e, h1, h2, h3⟩
  have ksub : ∀ (X X2 : Option Addr) (d d2 : Nat) (w' : World), Reads w' w'.heap.size 1 X n (ints .u32 a) → Reads w' w'.heap.size 1 X2 n2 (ints .u32 b) → Calls Try.prog 10 #[.slice X n d, .slice X2 n2 d2] w' fun en w'' => ∃ Ao co, en = .returned (.tuple #[.slice Ao m2 co, .int .i64 E2]) ∧ m2 ≤ co ∧ OwnR w'' w'.heap.size 49 Ao m2 (ints .u32 L2) ∧ Below w'.heap.size w' w'' := by
    intro X X2 d d2 w' r1 r2
    refine (sub_any X X2 n n2 d d2 a b gn.out gn2.out ha hb w' r1 r2).mono ?_
    rw [hA2]
    rintro en w'' ⟨Ao, co, e, h1, h2, h3⟩
    simp only [hm2] at e h1 h2
    exact ⟨Ao, co, e, h1, h2, h3⟩
  have krsub : ∀ (X X2 : Option Addr) (d d2 : Nat) (w' : World), Reads w' w'.heap.size 1 X n (ints .u32 a) → Reads w' w'.heap.size 1 X2 n2 (ints .u32 b) → Calls Try.prog 11 #[.slice X n d, .slice X2 n2 d2] w' fun en w'' => ∃ Ao co, en = .returned (.tuple #[.slice Ao m2 co, .int .i64 E2]) ∧ m2 ≤ co ∧ Reads w'' w''.heap.size 1 Ao m2 (ints .u32 L2) ∧ Below w'.heap.size w' w'' := by
    intro X X2 d d2 w' r1 r2
    refine (rsub_any X X2 n n2 d d2 a b gn.out gn2.out ha hb w' r1 r2).mono ?_
    rw [hA2]
    rintro en w'' ⟨Ao, co, e, h1, h2, h3⟩
    simp only [hm2] at e h1 h2
    exact ⟨Ao, co, e, h1, h2, h3⟩
  have kof : ∀ (w' : World), Calls Try.prog 15 #[.int .u64 (x : Int)] w' fun en w'' => ∃ Ao, en = .returned (.slice Ao m3 m3) ∧ OwnR w'' w'.heap.size 49 Ao m3 (ints .u32 (dig 4294967296 x)) ∧ Below w'.heap.size w' w'' := fun w' => of_any x hx m3 hm3 w'
  have krof : ∀ (w' : World), Calls Try.prog 16 #[.int .u64 (x : Int)] w' fun en w'' => ∃ Ao co, en = .returned (.slice Ao m3 co) ∧ m3 ≤ co ∧ Reads w'' w''.heap.size 1 Ao m3 (ints .u32 (dig 4294967296 x)) ∧ Below w'.heap.size w' w'' := fun w' => (rof_any x hx m3 hm3 w')
  have kchk : ∀ (X : Option Addr) (d B : Nat) (w' : World), Reads w' B 1 X n (ints .u32 a) → Calls Try.prog 12 #[.slice X n d] w' fun en w'' => en = .returned (.int .i64 Em) ∧ w' = w'' := fun X d B w' r => hEm ▸ check_any X n d B a gn.out w' r
  have krchk : ∀ (X : Option Addr) (d B : Nat) (w' : World), Reads w' B 1 X n (ints .u32 a) → Calls Try.prog 13 #[.slice X n d] w' fun en w'' => en = .returned (.int .i64 Em) ∧ w' = w'' := fun X d B w' r => hEm ▸ rcheck_any X n d B a gn.out w' r
  have kyes : ∀ (l : List Nat) (m : Nat) (hl : l.length = m) (hm : m ≤ 100) (X X2 : Option Addr) (d d2 B B2 : Nat) (w' : World), Reads w' B 1 X m (ints .u32 l) → Reads w' B2 1 X2 m (ints .u32 l) → Calls Try.prog 14 #[.slice X m d, .slice X2 m d2] w' fun en w'' => en = .returned (.bool true) ∧ ∃ q, w'' = w'.drewN q := by
    intro l m hl hm X X2 d d2 B B2 w' r1 r2
    have h := rsame_any X X2 m m d d2 B B2 l l hl hl (by omega) (by omega) w' r1 r2
    rw [show decide (l = l) = true from decide_eq_true rfl] at h
    exact h
  have ksame : ∀ (X X2 : Option Addr) (d d2 B B2 : Nat) (w' : World), Reads w' B 1 X n (ints .u32 a) → Reads w' B2 1 X2 n2 (ints .u32 b) → Calls Try.prog 17 #[.slice X n d, .slice X2 n2 d2] w' fun en w'' => en = .returned (.bool Q) ∧ ∃ q, w'' = w'.drewN q := fun X X2 d d2 B B2 w' r1 r2 => hQ ▸ same_any X X2 n n2 d d2 B B2 a b gn.out gn2.out (by omega) (by omega) w' r1 r2
  have krsame : ∀ (X X2 : Option Addr) (d d2 B B2 : Nat) (w' : World), Reads w' B 1 X n (ints .u32 a) → Reads w' B2 1 X2 n2 (ints .u32 b) → Calls Try.prog 14 #[.slice X n d, .slice X2 n2 d2] w' fun en w'' => en = .returned (.bool Q) ∧ ∃ q, w'' = w'.drewN q := fun X X2 d d2 B B2 w' r1 r2 => hQ ▸ rsame_any X X2 n n2 d d2 B B2 a b gn.out gn2.out (by omega) (by omega) w' r1 r2
  have ksyes : ∀ (X X2 : Option Addr) (d d2 B B2 : Nat) (w' : World), Reads w' B 1 X n (ints .u32 a) → Reads w' B2 1 X2 n (ints .u32 a) → Calls Try.prog 17 #[.slice X n d, .slice X2 n d2] w' fun en w'' => en = .returned (.bool true) ∧ ∃ q, w'' = w'.drewN q := by
    intro X X2 d d2 B B2 w' r1 r2
    have h := same_any X X2 n n d d2 B B2 a a gn.out gn.out (by omega) (by omega) w' r1 r2
    rw [show decide (a = a) = true from decide_eq_true rfl] at h
    exact h
  have gm1 := Lib.hid hm1
  have gm2 := Lib.hid hm2
  have gm3 := Lib.hid hm3
  have y1 : (C1 == C1) = true := by simp
  have y2 : (C2 == C2) = true := by simp
  have y3 : (E1 == E1) = true := by simp
  have y4 : (E2 == E2) = true := by simp
  have y5 : (Em == Em) = true := by simp
  have y6 : (Q == Q) = true := by simp
  clear hC hA1 hA2 hm1 hm2 hm3 hEm hQ hn hn2 ha hb hx h1 h2
  go_enter Try.func3, Try.ntmps3
  go_wp2_with (first | (go_at_call 5; (with_reducible refine g1.mono ?_); rintro e w1 ⟨rfl, rfl⟩) | (go_at_call 5; (with_reducible refine g2.mono ?_); rintro e w1 ⟨rfl, rfl⟩) | (at_builtin; refine wpList_append_any _ rfl (.tmp 29) (.tmp 30) 22 rfl w.heap.size 49 i0 _ 1 4 Try.underlying22 hi0 hz0 hz1 hz2 rfl (by omega) (.slice (some ⟨w.heap.size, 0, none⟩) 0 0) 0 [] rfl (owns_new w w.heap.size (Nat.le_refl _) [] 49 0 rfl (Nat.zero_le _)) w.heap.size A n c (ints .u32 a) rfl (hR.alloc (Nat.le_refl _) _) (ints_one _ _) (by unfold maxLen; omega) (by omega) (by rw [World.size_alloc]; omega) ?_; intro v4 w4 ho4 hg4 _; obtain ⟨Ao, co, rfl, hco, ro, b4⟩ := copied ho4 hg4) | (at_builtin; refine wpList_append_any _ rfl (.tmp 32) (.tmp 33) 22 rfl w4.heap.size 49 i0 _ 1 4 Try.underlying22 hi0 hz0 hz1 hz2 rfl (by omega) (.slice (some ⟨w4.heap.size, 0, none⟩) 0 0) 0 [] rfl (owns_new w4 w4.heap.size (Nat.le_refl _) [] 49 0 rfl (Nat.zero_le _)) w4.heap.size A2 n2 c2 (ints .u32 b) rfl (((hR2.below b4).more b4.size).alloc (Nat.le_refl _) _) (ints_one _ _) (by unfold maxLen; omega) (by omega) (by rw [World.size_alloc]; omega) ?_; intro v5 w5 ho5 hg5 _; obtain ⟨Ap, cp, rfl, hcp, rp, b5⟩ := copied ho5 hg5) | fail)
  have ra := (hR.below b4).more b4.size
  replace ra := (ra.below b5).more b5.size
  have rb := (hR2.below b4).more b4.size
  replace rb := (rb.below b5).more b5.size
  replace ro := (ro.below b5).more b5.size
  have bw := b4.trans (b5.mono b4.size)
  clear hR hR2 b4 b5 g1 g2 hi0 hz0 hz1 hz2 hg4 hg5 ho4 ho5
  refine (kcmp Ao Ap co cp _ ro rp).mono ?_
  rintro en w6 ⟨rfl, hb⟩
  replace ra := (ra.below hb).more hb.size
  replace rb := (rb.below hb).more hb.size
  replace ro := (ro.below hb).more hb.size
  replace rp := (rp.below hb).more hb.size
  replace bw := bw.trans (hb.mono bw.size)
  clear hb
  go_wp2_with fail
  refine (krcmp A A2 c c2 _ ra rb).mono ?_
  rintro en w7 ⟨rfl, hb⟩
  replace ra := (ra.below hb).more hb.size
  replace rb := (rb.below hb).more hb.size
  replace ro := (ro.below hb).more hb.size
  replace rp := (rp.below hb).more hb.size
  replace bw := bw.trans (hb.mono bw.size)
  clear hb
  go_wp2_with fail
  obtain ⟨V1, hV1⟩ : ∃ V, V = w7 := ⟨_, rfl⟩
  have bwV : w.heap.size ≤ V1.heap.size := by rw [hV1]; exact bw.size
  have bq : Below V1.heap.size V1 w7 := by rw [hV1]; exact Below.refl _ _
  have qo : Reads V1 V1.heap.size 1 Ao n (ints .u32 a) := by rw [hV1]; exact ro
  have qp : Reads V1 V1.heap.size 1 Ap n2 (ints .u32 b) := by rw [hV1]; exact rp
  have qa : Reads V1 V1.heap.size 1 A n (ints .u32 a) := by rw [hV1]; exact ra
  have qb : Reads V1 V1.heap.size 1 A2 n2 (ints .u32 b) := by rw [hV1]; exact rb
  refine (kadd Ao Ap co cp _ ro rp).mono ?_
  rintro en w8 ⟨X1, x1, rfl, hx1, ox, hb⟩
  rw [← hV1] at ox
  have gV := Lib.hid hV1
  clear hV1
  replace ra := (ra.below hb).more hb.size
  replace rb := (rb.below hb).more hb.size
  replace ro := (ro.below hb).more hb.size
  replace rp := (rp.below hb).more hb.size
  replace bw := bw.trans (hb.mono bw.size)
  replace bq := bq.trans (hb.mono (Nat.le_trans (Nat.le_refl _) bq.size))
  clear hb
  go_wp2_with fail
  refine (kradd A A2 c c2 _ ra rb).mono ?_
  rintro en w9 ⟨X2, x2, rfl, hx2, rx, hb⟩
  replace ra := (ra.below hb).more hb.size
  replace rb := (rb.below hb).more hb.size
  replace ro := (ro.below hb).more hb.size
  replace rp := (rp.below hb).more hb.size
  replace ox := ox.below hb
  replace bw := bw.trans (hb.mono bw.size)
  replace bq := bq.trans (hb.mono (Nat.le_trans (Nat.le_refl _) bq.size))
  clear hb
  go_wp2_with fail
  obtain ⟨V2, hV2⟩ : ∃ V, V = w9 := ⟨_, rfl⟩
  have bq2 : Below V2.heap.size V2 w9 := by rw [hV2]; exact Below.refl _ _
  have hV12 : V1.heap.size ≤ V2.heap.size := by rw [hV2]; exact bq.size
  have oxl := ox.lt
  rw [← hV2] at oxl
  refine (ksub Ao Ap co cp _ ro rp).mono ?_
  rintro en w10 ⟨X3, x3, rfl, hx3, oz, hb⟩
  rw [← hV2] at oz
  have gV2 := Lib.hid hV2
  clear hV2
  replace ra := (ra.below hb).more hb.size
  replace rb := (rb.below hb).more hb.size
  replace ro := (ro.below hb).more hb.size
  replace rp := (rp.below hb).more hb.size
  replace rx := (rx.below hb).more hb.size
  replace ox := ox.below hb
  replace bw := bw.trans (hb.mono bw.size)
  replace bq := bq.trans (hb.mono (Nat.le_trans (Nat.le_refl _) bq.size))
  replace bq2 := bq2.trans (hb.mono (Nat.le_trans (Nat.le_refl _) bq2.size))
  clear hb
  go_wp2_with fail
  refine (krsub A A2 c c2 _ ra rb).mono ?_
  rintro en w11 ⟨X4, x4, rfl, hx4, rz, hb⟩
  replace ra := (ra.below hb).more hb.size
  replace rb := (rb.below hb).more hb.size
  replace ro := (ro.below hb).more hb.size
  replace rp := (rp.below hb).more hb.size
  replace rx := (rx.below hb).more hb.size
  replace ox := ox.below hb
  replace oz := oz.below hb
  replace bw := bw.trans (hb.mono bw.size)
  replace bq := bq.trans (hb.mono (Nat.le_trans (Nat.le_refl _) bq.size))
  replace bq2 := bq2.trans (hb.mono (Nat.le_trans (Nat.le_refl _) bq2.size))
  clear hb
  go_wp2_with fail
  refine (kchk Ao co _ _ ro).mono ?_
  rintro en w12 ⟨rfl, rfl⟩
  go_wp2_with fail
  refine (krchk A c _ _ ra).mono ?_
  rintro en w12 ⟨rfl, rfl⟩
  go_wp2_with fail
  refine (kof _).mono ?_
  rintro en w12 ⟨Y1, rfl, oy, hb⟩
  replace ra := (ra.below hb).more hb.size
  replace rb := (rb.below hb).more hb.size
  replace ro := (ro.below hb).more hb.size
  replace rp := (rp.below hb).more hb.size
  replace rx := (rx.below hb).more hb.size
  replace rz := (rz.below hb).more hb.size
  replace ox := ox.below hb
  replace oz := oz.below hb
  replace bw := bw.trans (hb.mono bw.size)
  replace bq := bq.trans (hb.mono (Nat.le_trans (Nat.le_refl _) bq.size))
  replace bq2 := bq2.trans (hb.mono (Nat.le_trans (Nat.le_refl _) bq2.size))
  clear hb
  have ry := oy.reads
  clear oy
  go_wp2_with fail
  refine (krof _).mono ?_
  rintro en w13 ⟨Y2, y2c, rfl, hy2, ry2, hb⟩
  replace ra := (ra.below hb).more hb.size
  replace rb := (rb.below hb).more hb.size
  replace ro := (ro.below hb).more hb.size
  replace rp := (rp.below hb).more hb.size
  replace rx := (rx.below hb).more hb.size
  replace rz := (rz.below hb).more hb.size
  replace ry := (ry.below hb).more hb.size
  replace ox := ox.below hb
  replace oz := oz.below hb
  replace bw := bw.trans (hb.mono bw.size)
  replace bq := bq.trans (hb.mono (Nat.le_trans (Nat.le_refl _) bq.size))
  replace bq2 := bq2.trans (hb.mono (Nat.le_trans (Nat.le_refl _) bq2.size))
  clear hb
  go_wp2_with fail
  refine (kyes _ m3 gm3.out (by omega) Y1 Y2 m3 y2c _ _ _ ry ry2).mono ?_
  rintro en w14 ⟨rfl, q, hq⟩
  have hb : Below w13.heap.size w13 w14 := by rw [hq]; exact below_drewN (Below.refl _ _) q
  clear hq
  replace ra := (ra.below hb).more hb.size
  replace rb := (rb.below hb).more hb.size
  replace ro := (ro.below hb).more hb.size
  replace rp := (rp.below hb).more hb.size
  replace rx := (rx.below hb).more hb.size
  replace rz := (rz.below hb).more hb.size
  replace ry := (ry.below hb).more hb.size
  replace ry2 := (ry2.below hb).more hb.size
  replace ox := ox.below hb
  replace oz := oz.below hb
  replace bw := bw.trans (hb.mono bw.size)
  replace bq := bq.trans (hb.mono (Nat.le_trans (Nat.le_refl _) bq.size))
  replace bq2 := bq2.trans (hb.mono (Nat.le_trans (Nat.le_refl _) bq2.size))
  clear hb
  go_wp2_with fail
  refine (ksame Ao Ap co cp _ _ _ ro rp).mono ?_
  rintro en w15 ⟨rfl, q, hq⟩
  have hb : Below w14.heap.size w14 w15 := by rw [hq]; exact below_drewN (Below.refl _ _) q
  clear hq
  replace ra := (ra.below hb).more hb.size
  replace rb := (rb.below hb).more hb.size
  replace ro := (ro.below hb).more hb.size
  replace rp := (rp.below hb).more hb.size
  replace rx := (rx.below hb).more hb.size
  replace rz := (rz.below hb).more hb.size
  replace ry := (ry.below hb).more hb.size
  replace ry2 := (ry2.below hb).more hb.size
  replace ox := ox.below hb
  replace oz := oz.below hb
  replace bw := bw.trans (hb.mono bw.size)
  replace bq := bq.trans (hb.mono (Nat.le_trans (Nat.le_refl _) bq.size))
  replace bq2 := bq2.trans (hb.mono (Nat.le_trans (Nat.le_refl _) bq2.size))
  clear hb
  go_wp2_with fail
  refine (krsame A A2 c c2 _ _ _ ra rb).mono ?_
  rintro en w16 ⟨rfl, q, hq⟩
  have hb : Below w15.heap.size w15 w16 := by rw [hq]; exact below_drewN (Below.refl _ _) q
  clear hq
  replace ra := (ra.below hb).more hb.size
  replace rb := (rb.below hb).more hb.size
  replace ro := (ro.below hb).more hb.size
  replace rp := (rp.below hb).more hb.size
  replace rx := (rx.below hb).more hb.size
  replace rz := (rz.below hb).more hb.size
  replace ry := (ry.below hb).more hb.size
  replace ry2 := (ry2.below hb).more hb.size
  replace ox := ox.below hb
  replace oz := oz.below hb
  replace bw := bw.trans (hb.mono bw.size)
  replace bq := bq.trans (hb.mono (Nat.le_trans (Nat.le_refl _) bq.size))
  replace bq2 := bq2.trans (hb.mono (Nat.le_trans (Nat.le_refl _) bq2.size))
  clear hb
  go_wp2_with fail
  refine (ksyes Ao A co c _ _ _ ro ra).mono ?_
  rintro en w17 ⟨rfl, q, hq⟩
  have hb : Below w16.heap.size w16 w17 := by rw [hq]; exact below_drewN (Below.refl _ _) q
  clear hq
  replace ra := (ra.below hb).more hb.size
  replace rb := (rb.below hb).more hb.size
  replace ro := (ro.below hb).more hb.size
  replace rp := (rp.below hb).more hb.size
  replace rx := (rx.below hb).more hb.size
  replace rz := (rz.below hb).more hb.size
  replace ry := (ry.below hb).more hb.size
  replace ry2 := (ry2.below hb).more hb.size
  replace ox := ox.below hb
  replace oz := oz.below hb
  replace bw := bw.trans (hb.mono bw.size)
  replace bq := bq.trans (hb.mono (Nat.le_trans (Nat.le_refl _) bq.size))
  replace bq2 := bq2.trans (hb.mono (Nat.le_trans (Nat.le_refl _) bq2.size))
  clear hb
  go_wp2_with fail
  refine (kyes _ m1 gm1.out (by omega) X1 X2 x1 x2 _ _ _ ox.reads rx).mono ?_
  rintro en w18 ⟨rfl, q, hq⟩
  have hb : Below w17.heap.size w17 w18 := by rw [hq]; exact below_drewN (Below.refl _ _) q
  clear hq
  replace ra := (ra.below hb).more hb.size
  replace rb := (rb.below hb).more hb.size
  replace ro := (ro.below hb).more hb.size
  replace rp := (rp.below hb).more hb.size
  replace rx := (rx.below hb).more hb.size
  replace rz := (rz.below hb).more hb.size
  replace ry := (ry.below hb).more hb.size
  replace ry2 := (ry2.below hb).more hb.size
  replace ox := ox.below hb
  replace oz := oz.below hb
  replace bw := bw.trans (hb.mono bw.size)
  replace bq := bq.trans (hb.mono (Nat.le_trans (Nat.le_refl _) bq.size))
  replace bq2 := bq2.trans (hb.mono (Nat.le_trans (Nat.le_refl _) bq2.size))
  clear hb
  go_wp2_with fail
  refine (kyes _ m2 gm2.out (by omega) X3 X4 x3 x4 _ _ _ oz.reads rz).mono ?_
  rintro en w19 ⟨rfl, q, hq⟩
  have hb : Below w18.heap.size w18 w19 := by rw [hq]; exact below_drewN (Below.refl _ _) q
  clear hq
  replace ra := (ra.below hb).more hb.size
  replace rb := (rb.below hb).more hb.size
  replace ro := (ro.below hb).more hb.size
  replace rp := (rp.below hb).more hb.size
  replace rx := (rx.below hb).more hb.size
  replace rz := (rz.below hb).more hb.size
  replace ry := (ry.below hb).more hb.size
  replace ry2 := (ry2.below hb).more hb.size
  replace ox := ox.below hb
  replace oz := oz.below hb
  replace bw := bw.trans (hb.mono bw.size)
  replace bq := bq.trans (hb.mono (Nat.le_trans (Nat.le_refl _) bq.size))
  replace bq2 := bq2.trans (hb.mono (Nat.le_trans (Nat.le_refl _) bq2.size))
  clear hb
  go_wp2_with fail
  refine (spoil2 X1 m1 x1 _ L1 (by omega) _ ox).mono ?_
  rintro en w20 ⟨rfl, hs⟩
  replace oz := hs.2 _ _ _ _ oxl oz
  replace bq := bq.trans hs.1
  replace bw := bw.trans (hs.1.mono bwV)
  clear hs ox bq2 ra rb ro rp rx rz ry ry2
  go_wp2_with fail
  refine (spoil2 X3 m2 x3 _ L2 (by omega) _ oz).mono ?_
  rintro en w21 ⟨rfl, hs⟩
  replace bq := bq.trans (hs.1.mono hV12)
  replace bw := bw.trans (hs.1.mono (Nat.le_trans bwV hV12))
  clear hs oz
  go_wp2_with fail
  refine (kyes _ n gn.out (by omega) Ao A co c _ _ _ (qo.below bq) (qa.below bq)).mono ?_
  rintro en w22 ⟨rfl, q, hq⟩
  have hb : Below w21.heap.size w21 w22 := by rw [hq]; exact below_drewN (Below.refl _ _) q
  clear hq
  replace bw := bw.trans (hb.mono bw.size)
  replace bq := bq.trans (hb.mono (Nat.le_trans (Nat.le_refl _) bq.size))
  clear hb
  go_wp2_with fail
  refine (kyes _ n2 gn2.out (by omega) Ap A2 cp c2 _ _ _ (qp.below bq) (qb.below bq)).mono ?_
  rintro en w23 ⟨rfl, q, hq⟩
  have hb : Below w22.heap.size w22 w23 := by rw [hq]; exact below_drewN (Below.refl _ _) q
  clear hq
  replace bw := bw.trans (hb.mono bw.size)
  replace bq := bq.trans (hb.mono (Nat.le_trans (Nat.le_refl _) bq.size))
  clear hb
  go_wp2
  go_ret
  exact ⟨rfl, bw⟩
end Go.Proofs.Ytaklmkjldmbleaa
