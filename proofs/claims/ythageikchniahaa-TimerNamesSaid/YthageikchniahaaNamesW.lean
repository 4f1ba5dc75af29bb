/- Timer: the walk of TimerNames -/
import Derived.Test.YthageikchniahaaTY
import Derived.Laws.MakeOwn
namespace Go.Proofs.Ythageikchniahaa
open Go.ChangeShapes Go.WideShapes Go.ChangeAt Go.RowKit
set_option linter.unusedSimpArgs false
set_option linter.unusedVariables false

theorem made_T (n : Nat) : (Obj.cells (madeCells (Value.agg #[.int .i64 0, .int .i64 0]).cells (n * 2)) 35) = .cells (T2 (List.replicate n (0, 0))).toArray 35 := by
  congr 1
  have hall : ∀ u ∈ T2 (List.replicate n ((0, 0) : Tm)), u = Value.int .i64 0 := by
    intro u hu
    obtain ⟨t, ht, hu⟩ := List.mem_flatMap.1 hu
    rw [List.eq_of_mem_replicate ht] at hu
    simp [vT] at hu
    exact hu
  have e1 : T2 (List.replicate n ((0, 0) : Tm)) = List.replicate (n * 2) (Value.int .i64 0) := List.eq_replicate_iff.2 ⟨by rw [T2_len, List.length_replicate], hall⟩
  rw [e1]
  apply Array.ext
  · simp [madeCells, Value.cells]
  · intro i h1 h2
    have : i % 2 = 0 ∨ i % 2 = 1 := by omega
    rcases this with h | h <;> simp [madeCells, Value.cells, h]
def zerosT (n : Nat) : Obj := .cells (T2 (List.replicate n (0, 0))).toArray 35
theorem run_zerosT (n : Nat) (hn : n ≤ 10000) (w : World) : (Instr.makeSlice 22 (.int .i64 (n : Int)) (.int .i64 (n : Int))).run Try.prog w = .ok (.slice (some ⟨w.heap.size, 0, none⟩) n n) (w.alloc (zerosT n)) := by
  obtain ⟨i0, hi0, hz0, hz1, hz2⟩ := info_parts infoT
  have := run_make (P := Try.prog) w 22 35 i0 _ Try.underlying22 hi0 hz0 .i64 .i64 n n (by omega) (Int.le_refl _) (by rw [hz2]; omega) (by omega)
  rw [this, zerosT, ← made_T, hz1]
  simp
def repT (n : Nat) : List Tm := List.replicate n (0, 0)
theorem tms_zeros (n : Nat) (w : World) : Tms (w.alloc (zerosT n)) (w.alloc (zerosT n)).heap.size (some ⟨w.heap.size, 0, none⟩) n (repT n) :=
  tms_blk (Blk.new w 35 (T2 (repT n)).toArray) (by simp [repT]) (by simp)
theorem rep_may (n : Nat) : ((repT n).any fun t => !mayT t) = false := by
  rw [List.any_eq_false]
  intro t ht
  rw [List.eq_of_mem_replicate ht]
  decide
theorem rep_many {n : Nat} (h : 1024 < n) : ordE (repT n) = 4 ∧ ordO (repT n) = [] := by
  have e : ordE (repT n) = 4 := by unfold ordE; rw [if_pos (by simp [repT]; omega)]
  exact ⟨e, by unfold ordO; rw [e]; rfl⟩
theorem rep_ok {n : Nat} (h : ¬ 1024 < n) (h0 : 0 < n) : ordE (repT n) = 0 ∧ ordO (repT n) = [(0, 0)] := by
  have e : ordE (repT n) = 0 := by unfold ordE; rw [if_neg (by simp [repT]; omega), rep_may]; rfl
  refine ⟨e, ?_⟩
  unfold ordO
  rw [if_pos e]
  refine (ordL_eq (List.pairwise_singleton _ _) (fun x => ?_)).symm
  rw [List.mem_singleton]
  unfold repT
  rw [List.mem_replicate]
  constructor
  · exact fun h => ⟨by omega, h⟩
  · exact fun h => h.2
theorem set_lit (l o : List Tm) (x y E : Int) (n m : Nat) (hn : n ≤ 5000) (he : setE l (x, y) = E) (ho : setO l (x, y) = o) (hm : o.length = m) (A : Option Addr) (c : Nat) (w : World) (ht : Tms w w.heap.size A n l) : Calls Try.prog 15 #[.slice A n c, .agg #[.int .i64 x, .int .i64 y]] w fun en w' => ∃ A' c', en = .returned (.tuple #[.slice A' m c', .int .i64 E]) ∧ w'.ownsRow w.heap.size 35 2 (.slice A' m c') m (T2 o) ∧ Below w.heap.size w w' := by
  have h := set_any A n c l x y hn w ht
  unfold RowPost at h
  rw [he, ho, hm] at h
  exact h
theorem off_lit (l o : List Tm) (N E : Int) (n m : Nat) (hn : n ≤ 5000) (he : offE l N = E) (ho : offO l N = o) (hm : o.length = m) (A : Option Addr) (c : Nat) (w : World) (ht : Tms w w.heap.size A n l) : Calls Try.prog 19 #[.slice A n c, .int .i64 N] w fun en w' => ∃ A' c', en = .returned (.tuple #[.slice A' m c', .int .i64 E]) ∧ w'.ownsRow w.heap.size 35 2 (.slice A' m c') m (T2 o) ∧ Below w.heap.size w w' := by
  have h := off_any A n c l N hn w ht
  unfold RowPost at h
  rw [he, ho, hm] at h
  exact h
theorem due_litE (l : List Tm) (now E : Int) (n : Nat) (hn : n ≤ 5000) (he : dueE l now = E) (h0 : E ≠ 0) (A : Option Addr) (c : Nat) (w : World) (ht : Tms w w.heap.size A n l) : Calls Try.prog 14 #[.slice A n c, .int .i64 now] w fun en w' => (∃ A' c' A2 c2, en = .returned (.tuple #[.slice A' 0 c', .slice A2 0 c2, .int .i64 E])) ∧ Below w.heap.size w w' := by
  have h := due_any A n c l now hn w ht
  have ha : dueA l now = [] := by unfold dueA; rw [he, if_neg h0]
  have hb : dueB l now = [] := by unfold dueB; rw [he, if_neg h0]
  unfold DuePost at h
  rw [he, ha, hb] at h
  refine h.mono ?_
  rintro en w' ⟨A', c', A2, c2, e, _, _, _, hb⟩
  exact ⟨⟨A', c', A2, c2, e⟩, hb⟩
theorem order_litE (l o : List Tm) (E : Int) (n m : Nat) (hmx : n ≤ maxLen) (he : ordE l = E) (ho : ordO l = o) (hm : o.length = m) (A : Option Addr) (c : Nat) (w : World) (ht : Tms w w.heap.size A n l) : Calls Try.prog 9 #[.slice A n c] w fun en w' => (∃ A' c', en = .returned (.tuple #[.slice A' m c', .int .i64 E])) ∧ Below w.heap.size w w' := by
  have h := order_any A n c l hmx w ht
  unfold OrdPost at h
  rw [he, ho, hm] at h
  refine h.mono ?_
  rintro en w' ⟨A', c', e, _, hb⟩
  exact ⟨⟨A', c', e⟩, hb⟩
theorem next_nil (w : World) : Calls Try.prog 17 #[.slice none 0 0] w fun en w' => en = .returned (.tuple #[.agg #[.int .i64 0, .int .i64 0], .int .i64 6]) ∧ Below w.heap.size w w' := by
  have h := next_of none 0 0 [] (by omega) w Tms.none_
  have e := nx_none (l := []) (by decide) rfl
  rw [e.1, e.2] at h
  exact h
set_option maxRecDepth 100000 in
set_option maxHeartbeats 32000000 in
theorem TimerNames.walk (w : World) : Calls Try.prog 6 #[] w fun en w' => en = .returned (.bool true) ∧ Below w.heap.size w w' := by
  have gB : Hid (Below w.heap.size w w) := Lib.hid (Below.refl _ _)
  have k1 := run_zerosT 1025 (by omega)
  have k2 := run_zerosT 1024 (by omega)
  have htz := tms_zeros
  have hr4 := rep_many (n := 1025) (by omega)
  have hr0 := rep_ok (n := 1024) (by omega) (by omega)
  obtain ⟨Z, hZ⟩ : ∃ Z, Z = zerosT := ⟨_, rfl⟩
  obtain ⟨rl, hrl⟩ : ∃ rl, rl = repT := ⟨_, rfl⟩
  rw [← hZ] at k1 k2 htz
  rw [← hrl] at htz hr4 hr0
  clear hZ hrl
  simp only [Int.ofNat_eq_natCast, show ((1025 : Nat) : Int) = 1025 from rfl, show ((1024 : Nat) : Int) = 1024 from rfl] at k1 k2
  have ghr := Lib.hid (And.intro hr4 hr0)
  clear hr4 hr0
  go_enter Try.func6, Try.ntmps6
  go_wp2_with fail
  refine (next_nil w).mono ?_
  rintro en x1 ⟨rfl, hb⟩
  have sx1 := hb.size
  replace gB := Lib.hid (gB.out.trans (hb.mono gB.out.size))
  clear hb
  obtain ⟨y1, hy1⟩ : ∃ W, W = x1.alloc (.cells #[.int .i64 0, .int .i64 0] 35) := ⟨_, rfl⟩
  have hb : Below x1.heap.size x1 y1 := by rw [hy1]; exact (Below.refl _ _).alloc (Nat.le_refl _) _
  have kb0 : Hid (Blk y1 x1.heap.size 35 #[.int .i64 0, .int .i64 0]) := Lib.hid (by rw [hy1]; exact Blk.new _ _ _)
  have sy1 := hb.size
  replace gB := Lib.hid (gB.out.trans (hb.mono gB.out.size))
  clear hb
  go_wp2_with fail
  rw [← hy1]
  clear hy1
  refine (t_any 1 1 y1).mono ?_
  rintro en x2 ⟨rfl, hb⟩
  have sx2 := hb.size
  replace kb0 := Lib.hid (kb0.out.below hb kb0.out.lt)
  replace gB := Lib.hid (gB.out.trans (hb.mono gB.out.size))
  clear hb
  obtain ⟨y2, hy2⟩ : ∃ W, W = x2.alloc (.cells #[.int .i64 1, .int .i64 1] 35) := ⟨_, rfl⟩
  have hb : Below x2.heap.size x2 y2 := by rw [hy2]; exact (Below.refl _ _).alloc (Nat.le_refl _) _
  have kz1 : Hid (Blk y2 x2.heap.size 35 #[.int .i64 1, .int .i64 1]) := Lib.hid (by rw [hy2]; exact Blk.new _ _ _)
  have sy2 := hb.size
  replace kb0 := Lib.hid (kb0.out.below hb kb0.out.lt)
  replace gB := Lib.hid (gB.out.trans (hb.mono gB.out.size))
  clear hb
  go_wp2_with fail
  rw [← hy2]
  clear hy2
  refine (t_any 1 1 y2).mono ?_
  rintro en x3 ⟨rfl, hb⟩
  have sx3 := hb.size
  replace kb0 := Lib.hid (kb0.out.below hb kb0.out.lt)
  replace kz1 := Lib.hid (kz1.out.below hb kz1.out.lt)
  replace gB := Lib.hid (gB.out.trans (hb.mono gB.out.size))
  clear hb
  go_wp2_with fail
  refine (set_lit ([(1, 1)] : List Tm) [] 1 1 12 1 0 (by omega) (by decide) (by decide) rfl (some ⟨x2.heap.size, 0, none⟩) 1 x3 (tms_blk (l := ([(1, 1)] : List Tm)) kz1.out rfl rfl)).mono ?_
  rintro en x4 ⟨Ar1, cr1, rfl, hor1, hb⟩
  have hr1 : Hid (x4.ownsRow x3.heap.size 35 2 (.slice Ar1 0 cr1) 0 (T2 ([] : List Tm)) ∧ ([] : List Tm).length = 0) := Lib.hid ⟨hor1, rfl⟩
  have ir1 : Hid (∀ k, (Value.slice Ar1 0 cr1).ownBlock = some k → x3.heap.size ≤ k ∧ k < x4.heap.size) := Lib.hid (fun k hk => ⟨own_base hor1 hk, own_lt hor1 hk⟩)
  clear hor1
  have sx4 := hb.size
  replace kb0 := Lib.hid (kb0.out.below hb kb0.out.lt)
  replace kz1 := Lib.hid (kz1.out.below hb kz1.out.lt)
  replace gB := Lib.hid (gB.out.trans (hb.mono gB.out.size))
  clear hb
  go_wp2_with fail
  refine (t_any (-1) 0 x4).mono ?_
  rintro en x5 ⟨rfl, hb⟩
  have sx5 := hb.size
  replace hr1 := Lib.hid (And.intro (own_below hr1.out.1 hb) hr1.out.2)
  replace kb0 := Lib.hid (kb0.out.below hb kb0.out.lt)
  replace kz1 := Lib.hid (kz1.out.below hb kz1.out.lt)
  replace gB := Lib.hid (gB.out.trans (hb.mono gB.out.size))
  clear hb
  go_wp2_with fail
  refine (set_lit ([] : List Tm) [] (-1) 0 8 0 0 (by omega) (by decide) (by decide) rfl none 0 x5 Tms.none_).mono ?_
  rintro en x6 ⟨Ar2, cr2, rfl, hor2, hb⟩
  have hr2 : Hid (x6.ownsRow x5.heap.size 35 2 (.slice Ar2 0 cr2) 0 (T2 ([] : List Tm)) ∧ ([] : List Tm).length = 0) := Lib.hid ⟨hor2, rfl⟩
  have ir2 : Hid (∀ k, (Value.slice Ar2 0 cr2).ownBlock = some k → x5.heap.size ≤ k ∧ k < x6.heap.size) := Lib.hid (fun k hk => ⟨own_base hor2 hk, own_lt hor2 hk⟩)
  clear hor2
  have sx6 := hb.size
  replace hr1 := Lib.hid (And.intro (own_below hr1.out.1 hb) hr1.out.2)
  replace kb0 := Lib.hid (kb0.out.below hb kb0.out.lt)
  replace kz1 := Lib.hid (kz1.out.below hb kz1.out.lt)
  replace gB := Lib.hid (gB.out.trans (hb.mono gB.out.size))
  clear hb
  go_wp2_with fail
  refine (t_any 2147483647 1048575 x6).mono ?_
  rintro en x7 ⟨rfl, hb⟩
  have sx7 := hb.size
  replace hr1 := Lib.hid (And.intro (own_below hr1.out.1 hb) hr1.out.2)
  replace hr2 := Lib.hid (And.intro (own_below hr2.out.1 hb) hr2.out.2)
  replace kb0 := Lib.hid (kb0.out.below hb kb0.out.lt)
  replace kz1 := Lib.hid (kz1.out.below hb kz1.out.lt)
  replace gB := Lib.hid (gB.out.trans (hb.mono gB.out.size))
  clear hb
  go_wp2_with fail
  refine (set_lit ([] : List Tm) ([(2147483647, 1048575)] : List Tm) 2147483647 1048575 0 0 1 (by omega) (by decide) (by decide) rfl none 0 x7 Tms.none_).mono ?_
  rintro en x8 ⟨Ar3, cr3, rfl, hor3, hb⟩
  have hr3 : Hid (x8.ownsRow x7.heap.size 35 2 (.slice Ar3 1 cr3) 1 (T2 ([(2147483647, 1048575)] : List Tm)) ∧ ([(2147483647, 1048575)] : List Tm).length = 1) := Lib.hid ⟨hor3, rfl⟩
  have ir3 : Hid (∀ k, (Value.slice Ar3 1 cr3).ownBlock = some k → x7.heap.size ≤ k ∧ k < x8.heap.size) := Lib.hid (fun k hk => ⟨own_base hor3 hk, own_lt hor3 hk⟩)
  clear hor3
  have sx8 := hb.size
  replace hr1 := Lib.hid (And.intro (own_below hr1.out.1 hb) hr1.out.2)
  replace hr2 := Lib.hid (And.intro (own_below hr2.out.1 hb) hr2.out.2)
  replace kb0 := Lib.hid (kb0.out.below hb kb0.out.lt)
  replace kz1 := Lib.hid (kz1.out.below hb kz1.out.lt)
  replace gB := Lib.hid (gB.out.trans (hb.mono gB.out.size))
  clear hb
  go_wp2_with fail
  refine (due_litE [] (-1) 2 0 (by omega) (by decide) (by decide) none 0 x8 Tms.none_).mono ?_
  rintro en x9 ⟨⟨Aq1, cq1, Aq2, cq2, rfl⟩, hb⟩
  have sx9 := hb.size
  replace hr1 := Lib.hid (And.intro (own_below hr1.out.1 hb) hr1.out.2)
  replace hr2 := Lib.hid (And.intro (own_below hr2.out.1 hb) hr2.out.2)
  replace hr3 := Lib.hid (And.intro (own_below hr3.out.1 hb) hr3.out.2)
  replace kb0 := Lib.hid (kb0.out.below hb kb0.out.lt)
  replace kz1 := Lib.hid (kz1.out.below hb kz1.out.lt)
  replace gB := Lib.hid (gB.out.trans (hb.mono gB.out.size))
  clear hb
  go_wp2_with fail
  refine (off_lit ([(2147483647, 1048575)] : List Tm) [] 1048576 2 1 0 (by omega) (by decide) (by decide) rfl Ar3 cr3 x9 (Tms.of_own hr3.out.1 hr3.out.2)).mono ?_
  rintro en x10 ⟨Ar4, cr4, rfl, hor4, hb⟩
  have hr4 : Hid (x10.ownsRow x9.heap.size 35 2 (.slice Ar4 0 cr4) 0 (T2 ([] : List Tm)) ∧ ([] : List Tm).length = 0) := Lib.hid ⟨hor4, rfl⟩
  have ir4 : Hid (∀ k, (Value.slice Ar4 0 cr4).ownBlock = some k → x9.heap.size ≤ k ∧ k < x10.heap.size) := Lib.hid (fun k hk => ⟨own_base hor4 hk, own_lt hor4 hk⟩)
  clear hor4
  have sx10 := hb.size
  replace hr1 := Lib.hid (And.intro (own_below hr1.out.1 hb) hr1.out.2)
  replace hr2 := Lib.hid (And.intro (own_below hr2.out.1 hb) hr2.out.2)
  replace hr3 := Lib.hid (And.intro (own_below hr3.out.1 hb) hr3.out.2)
  replace kb0 := Lib.hid (kb0.out.below hb kb0.out.lt)
  replace kz1 := Lib.hid (kz1.out.below hb kz1.out.lt)
  replace gB := Lib.hid (gB.out.trans (hb.mono gB.out.size))
  clear hb
  go_wp2_with fail
  refine (off_lit ([(2147483647, 1048575)] : List Tm) [] 1048575 0 1 0 (by omega) (by decide) (by decide) rfl Ar3 cr3 x10 (Tms.of_own hr3.out.1 hr3.out.2)).mono ?_
  rintro en x11 ⟨Ar5, cr5, rfl, hor5, hb⟩
  have hr5 : Hid (x11.ownsRow x10.heap.size 35 2 (.slice Ar5 0 cr5) 0 (T2 ([] : List Tm)) ∧ ([] : List Tm).length = 0) := Lib.hid ⟨hor5, rfl⟩
  have ir5 : Hid (∀ k, (Value.slice Ar5 0 cr5).ownBlock = some k → x10.heap.size ≤ k ∧ k < x11.heap.size) := Lib.hid (fun k hk => ⟨own_base hor5 hk, own_lt hor5 hk⟩)
  clear hor5
  have sx11 := hb.size
  replace hr1 := Lib.hid (And.intro (own_below hr1.out.1 hb) hr1.out.2)
  replace hr2 := Lib.hid (And.intro (own_below hr2.out.1 hb) hr2.out.2)
  replace hr3 := Lib.hid (And.intro (own_below hr3.out.1 hb) hr3.out.2)
  replace hr4 := Lib.hid (And.intro (own_below hr4.out.1 hb) hr4.out.2)
  replace kb0 := Lib.hid (kb0.out.below hb kb0.out.lt)
  replace kz1 := Lib.hid (kz1.out.below hb kz1.out.lt)
  replace gB := Lib.hid (gB.out.trans (hb.mono gB.out.size))
  clear hb
  go_wp2_with fail
  obtain ⟨y12, hy12⟩ : ∃ W, W = x11.alloc (Z 1025) := ⟨_, rfl⟩
  rw [← hy12]
  have hb : Below x11.heap.size x11 y12 := by rw [hy12]; exact (Below.refl _ _).alloc (Nat.le_refl _) _
  have ht : Tms y12 y12.heap.size (some ⟨x11.heap.size, 0, none⟩) 1025 (rl 1025) := by rw [hy12]; exact htz 1025 x11
  clear hy12
  have sy12 := hb.size
  replace hr1 := Lib.hid (And.intro (own_below hr1.out.1 hb) hr1.out.2)
  replace hr2 := Lib.hid (And.intro (own_below hr2.out.1 hb) hr2.out.2)
  replace hr3 := Lib.hid (And.intro (own_below hr3.out.1 hb) hr3.out.2)
  replace hr4 := Lib.hid (And.intro (own_below hr4.out.1 hb) hr4.out.2)
  replace hr5 := Lib.hid (And.intro (own_below hr5.out.1 hb) hr5.out.2)
  replace kb0 := Lib.hid (kb0.out.below hb kb0.out.lt)
  replace kz1 := Lib.hid (kz1.out.below hb kz1.out.lt)
  replace gB := Lib.hid (gB.out.trans (hb.mono gB.out.size))
  clear hb
  refine (order_litE (rl 1025) [] 4 1025 0 (by unfold maxLen; omega) ghr.out.1.1 ghr.out.1.2 rfl (some ⟨x11.heap.size, 0, none⟩) 1025 y12 ht).mono ?_
  rintro en x13 ⟨⟨Az1025, cz1025, rfl⟩, hb⟩
  clear ht
  have sx13 := hb.size
  replace hr1 := Lib.hid (And.intro (own_below hr1.out.1 hb) hr1.out.2)
  replace hr2 := Lib.hid (And.intro (own_below hr2.out.1 hb) hr2.out.2)
  replace hr3 := Lib.hid (And.intro (own_below hr3.out.1 hb) hr3.out.2)
  replace hr4 := Lib.hid (And.intro (own_below hr4.out.1 hb) hr4.out.2)
  replace hr5 := Lib.hid (And.intro (own_below hr5.out.1 hb) hr5.out.2)
  replace kb0 := Lib.hid (kb0.out.below hb kb0.out.lt)
  replace kz1 := Lib.hid (kz1.out.below hb kz1.out.lt)
  replace gB := Lib.hid (gB.out.trans (hb.mono gB.out.size))
  clear hb
  go_wp2_with fail
  obtain ⟨y14, hy14⟩ : ∃ W, W = x13.alloc (Z 1024) := ⟨_, rfl⟩
  rw [← hy14]
  have hb : Below x13.heap.size x13 y14 := by rw [hy14]; exact (Below.refl _ _).alloc (Nat.le_refl _) _
  have ht : Tms y14 y14.heap.size (some ⟨x13.heap.size, 0, none⟩) 1024 (rl 1024) := by rw [hy14]; exact htz 1024 x13
  clear hy14
  have sy14 := hb.size
  replace hr1 := Lib.hid (And.intro (own_below hr1.out.1 hb) hr1.out.2)
  replace hr2 := Lib.hid (And.intro (own_below hr2.out.1 hb) hr2.out.2)
  replace hr3 := Lib.hid (And.intro (own_below hr3.out.1 hb) hr3.out.2)
  replace hr4 := Lib.hid (And.intro (own_below hr4.out.1 hb) hr4.out.2)
  replace hr5 := Lib.hid (And.intro (own_below hr5.out.1 hb) hr5.out.2)
  replace kb0 := Lib.hid (kb0.out.below hb kb0.out.lt)
  replace kz1 := Lib.hid (kz1.out.below hb kz1.out.lt)
  replace gB := Lib.hid (gB.out.trans (hb.mono gB.out.size))
  clear hb
  refine (order_litE (rl 1024) [(0, 0)] 0 1024 1 (by unfold maxLen; omega) ghr.out.2.1 ghr.out.2.2 rfl (some ⟨x13.heap.size, 0, none⟩) 1024 y14 ht).mono ?_
  rintro en x15 ⟨⟨Az1024, cz1024, rfl⟩, hb⟩
  clear ht
  have sx15 := hb.size
  replace hr1 := Lib.hid (And.intro (own_below hr1.out.1 hb) hr1.out.2)
  replace hr2 := Lib.hid (And.intro (own_below hr2.out.1 hb) hr2.out.2)
  replace hr3 := Lib.hid (And.intro (own_below hr3.out.1 hb) hr3.out.2)
  replace hr4 := Lib.hid (And.intro (own_below hr4.out.1 hb) hr4.out.2)
  replace hr5 := Lib.hid (And.intro (own_below hr5.out.1 hb) hr5.out.2)
  replace kb0 := Lib.hid (kb0.out.below hb kb0.out.lt)
  replace kz1 := Lib.hid (kz1.out.below hb kz1.out.lt)
  replace gB := Lib.hid (gB.out.trans (hb.mono gB.out.size))
  clear hb
  go_wp2_with fail
  refine (alive_any x15).mono ?_
  rintro en x16 ⟨rfl, hb⟩
  have sx16 := hb.size
  replace hr1 := Lib.hid (And.intro (own_below hr1.out.1 hb) hr1.out.2)
  replace hr2 := Lib.hid (And.intro (own_below hr2.out.1 hb) hr2.out.2)
  replace hr3 := Lib.hid (And.intro (own_below hr3.out.1 hb) hr3.out.2)
  replace hr4 := Lib.hid (And.intro (own_below hr4.out.1 hb) hr4.out.2)
  replace hr5 := Lib.hid (And.intro (own_below hr5.out.1 hb) hr5.out.2)
  replace kb0 := Lib.hid (kb0.out.below hb kb0.out.lt)
  replace kz1 := Lib.hid (kz1.out.below hb kz1.out.lt)
  replace gB := Lib.hid (gB.out.trans (hb.mono gB.out.size))
  clear hb
  go_wp2_with fail
  refine (t_any 1 1 x16).mono ?_
  rintro en x17 ⟨rfl, hb⟩
  have sx17 := hb.size
  replace hr1 := Lib.hid (And.intro (own_below hr1.out.1 hb) hr1.out.2)
  replace hr2 := Lib.hid (And.intro (own_below hr2.out.1 hb) hr2.out.2)
  replace hr3 := Lib.hid (And.intro (own_below hr3.out.1 hb) hr3.out.2)
  replace hr4 := Lib.hid (And.intro (own_below hr4.out.1 hb) hr4.out.2)
  replace hr5 := Lib.hid (And.intro (own_below hr5.out.1 hb) hr5.out.2)
  replace kb0 := Lib.hid (kb0.out.below hb kb0.out.lt)
  replace kz1 := Lib.hid (kz1.out.below hb kz1.out.lt)
  replace gB := Lib.hid (gB.out.trans (hb.mono gB.out.size))
  clear hb
  go_wp2_with fail
  refine (t_any 1 1 x17).mono ?_
  rintro en x18 ⟨rfl, hb⟩
  have sx18 := hb.size
  replace hr1 := Lib.hid (And.intro (own_below hr1.out.1 hb) hr1.out.2)
  replace hr2 := Lib.hid (And.intro (own_below hr2.out.1 hb) hr2.out.2)
  replace hr3 := Lib.hid (And.intro (own_below hr3.out.1 hb) hr3.out.2)
  replace hr4 := Lib.hid (And.intro (own_below hr4.out.1 hb) hr4.out.2)
  replace hr5 := Lib.hid (And.intro (own_below hr5.out.1 hb) hr5.out.2)
  replace kb0 := Lib.hid (kb0.out.below hb kb0.out.lt)
  replace kz1 := Lib.hid (kz1.out.below hb kz1.out.lt)
  replace gB := Lib.hid (gB.out.trans (hb.mono gB.out.size))
  clear hb
  obtain ⟨y18, hy18⟩ : ∃ W, W = x18.alloc (.cells #[.int .i64 1, .int .i64 1, .int .i64 1, .int .i64 1] 35) := ⟨_, rfl⟩
  have hb : Below x18.heap.size x18 y18 := by rw [hy18]; exact (Below.refl _ _).alloc (Nat.le_refl _) _
  have kz2 : Hid (Blk y18 x18.heap.size 35 #[.int .i64 1, .int .i64 1, .int .i64 1, .int .i64 1]) := Lib.hid (by rw [hy18]; exact Blk.new _ _ _)
  have sy18 := hb.size
  replace hr1 := Lib.hid (And.intro (own_below hr1.out.1 hb) hr1.out.2)
  replace hr2 := Lib.hid (And.intro (own_below hr2.out.1 hb) hr2.out.2)
  replace hr3 := Lib.hid (And.intro (own_below hr3.out.1 hb) hr3.out.2)
  replace hr4 := Lib.hid (And.intro (own_below hr4.out.1 hb) hr4.out.2)
  replace hr5 := Lib.hid (And.intro (own_below hr5.out.1 hb) hr5.out.2)
  replace kb0 := Lib.hid (kb0.out.below hb kb0.out.lt)
  replace kz1 := Lib.hid (kz1.out.below hb kz1.out.lt)
  replace gB := Lib.hid (gB.out.trans (hb.mono gB.out.size))
  clear hb
  go_wp2_with fail
  rw [← hy18]
  clear hy18
  refine (check_any (some ⟨x18.heap.size, 0, none⟩) 2 2 [(1, 1), (1, 1)] y18 (tms_blk (l := ([(1, 1), (1, 1)] : List Tm)) kz2.out rfl rfl) (by unfold maxLen; omega) 8 (by decide)).mono ?_
  rintro en x19 ⟨rfl, hb⟩
  have sx19 := hb.size
  replace hr1 := Lib.hid (And.intro (own_below hr1.out.1 hb) hr1.out.2)
  replace hr2 := Lib.hid (And.intro (own_below hr2.out.1 hb) hr2.out.2)
  replace hr3 := Lib.hid (And.intro (own_below hr3.out.1 hb) hr3.out.2)
  replace hr4 := Lib.hid (And.intro (own_below hr4.out.1 hb) hr4.out.2)
  replace hr5 := Lib.hid (And.intro (own_below hr5.out.1 hb) hr5.out.2)
  replace kb0 := Lib.hid (kb0.out.below hb kb0.out.lt)
  replace kz1 := Lib.hid (kz1.out.below hb kz1.out.lt)
  replace kz2 := Lib.hid (kz2.out.below hb kz2.out.lt)
  replace gB := Lib.hid (gB.out.trans (hb.mono gB.out.size))
  clear hb
  go_wp2
  go_ret
  exact ⟨rfl, gB.out⟩
end Go.Proofs.Ythageikchniahaa
