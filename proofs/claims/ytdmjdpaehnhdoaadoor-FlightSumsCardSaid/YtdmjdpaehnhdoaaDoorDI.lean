/- Door: (*dyad.sum).form -/
import Derived.Test.YtdmjdpaehnhdoaaDoorDG
import Derived.Test.YtdmjdpaehnhdoaaDoorDPH
import Derived.Test.YtdmjdpaehnhdoaaDoorDF
namespace Go.Proofs.YtdmjdpaehnhdoaaDoor
open Go.ChangeShapes Go.WideShapes Go.ChangeAt Go.RowKit
set_option linter.unusedSimpArgs false
set_option linter.unusedVariables false
/-- What form has found behind so many limbs. -/
def InvF (a : List Nat) (j lo hi : Nat) : Prop := (lo = 0 ∧ hi = 0 ∧ ∀ i, i < j → a.getD i 0 = 0) ∨ (0 < hi ∧ ∃ f m, f < j ∧ m < j ∧ (∀ i, i < f → a.getD i 0 = 0) ∧ a.getD f 0 ≠ 0 ∧ lo = 32 * f + Lib.ctz 32 (a.getD f 0) ∧ a.getD m 0 ≠ 0 ∧ (∀ i, m < i → i < j → a.getD i 0 = 0) ∧ hi = 32 * m + Lib.bitLen (a.getD m 0))
theorem inv_zero {a : List Nat} {j lo hi : Nat} (h : InvF a j lo hi) (h0 : a.getD j 0 = 0) : InvF a (j + 1) lo hi := by
  rcases h with ⟨h1, h2, h3⟩ | ⟨hp, f, m, h1, h2, h3, h4, h5, h6, h7, h8⟩
  · refine .inl ⟨h1, h2, fun i hi => ?_⟩
    rcases Nat.lt_or_ge i j with h | h
    · exact h3 i h
    · rw [show i = j by omega, h0]
  · refine .inr ⟨hp, f, m, by omega, by omega, h3, h4, h5, h6, fun i h9 hi => ?_, h8⟩
    rcases Nat.lt_or_ge i j with h | h
    · exact h7 i h9 h
    · rw [show i = j by omega, h0]
theorem bitLen_pos {x : Nat} (h : x ≠ 0) (hx : x < 4294967296) : 0 < Lib.bitLen x ∧ Lib.bitLen x ≤ 32 := by
  obtain ⟨b1, b2, b3⟩ := Lib.bitLenAux_bounds 64 x (by omega) h
  have e : Lib.bitLen x = Lib.bitLenAux 64 x := rfl
  rw [← e] at b1 b2 b3
  refine ⟨b1, ?_⟩
  rcases Nat.lt_or_ge 32 (Lib.bitLen x) with h | h
  · have := Nat.pow_le_pow_right (show 0 < 2 by omega) (show 32 ≤ Lib.bitLen x - 1 by omega)
    omega
  · exact h
theorem inv_first {a : List Nat} {j lo : Nat} (h : InvF a j lo 0) (h0 : a.getD j 0 ≠ 0) (hb : a.getD j 0 < 4294967296) : InvF a (j + 1) (32 * j + Lib.ctz 32 (a.getD j 0)) (32 * j + Lib.bitLen (a.getD j 0)) := by
  have := bitLen_pos h0 hb
  rcases h with ⟨h1, h2, h3⟩ | ⟨hp, _⟩
  · exact .inr ⟨by omega, j, j, by omega, by omega, h3, h0, rfl, h0, fun i h1 h2 => by omega, rfl⟩
  · exact absurd hp (by omega)
theorem inv_more {a : List Nat} {j lo hi : Nat} (h : InvF a j lo hi) (hh : hi ≠ 0) (h0 : a.getD j 0 ≠ 0) (hb : a.getD j 0 < 4294967296) : InvF a (j + 1) lo (32 * j + Lib.bitLen (a.getD j 0)) := by
  have := bitLen_pos h0 hb
  rcases h with ⟨h1, h2, h3⟩ | ⟨hp, f, m, h1, h2, h3, h4, h5, h6, h7, h8⟩
  · exact absurd h2 hh
  · exact .inr ⟨by omega, f, j, by omega, by omega, h3, h4, h5, h0, fun i h1 h2 => by omega, rfl⟩
theorem inv_end {a : List Nat} {lo hi : Nat} (ha : ∀ x ∈ a, x < 4294967296) (h : InvF a a.length lo hi) : (val 4294967296 a = 0 ∧ lo = 0 ∧ hi = 0) ∨ (0 < val 4294967296 a ∧ lo = lowN (val 4294967296 a) ∧ hi = bl (val 4294967296 a) ∧ 0 < hi) := by
  rcases h with ⟨h1, h2, h3⟩ | ⟨hp, f, m, h1, h2, h3, h4, h5, h6, h7, h8⟩
  · refine .inl ⟨?_, h1, h2⟩
    refine val_zero fun x hx => ?_
    obtain ⟨i, hi, rfl⟩ := List.getElem_of_mem hx
    have := h3 i hi
    rwa [List.getD_eq_getElem?_getD, List.getElem?_eq_getElem hi] at this
  · exact .inr ⟨val_pos h2 h6, by rw [h5]; exact (ends_low h1 h3 h4 ha).symm, by rw [h8]; exact (ends_high h2 h7 h6 ha).symm, hp⟩
/-- What form answers. -/
def FrmP (R : Option Dy) (w : World) (en : Ending) (w' : World) : Prop := Below w.heap.size w w' ∧ ((R = none ∧ en = .returned (.tuple #[.agg #[.bool false, .slice none 0 0, .int .i64 0], .int .i64 10])) ∨ (∃ d, R = some d ∧ ∃ X c, en = .returned (.tuple #[.agg #[.bool d.neg, .slice X d.ls.length c, .int .i64 d.ex], .int .i64 0]) ∧ d.ls.length ≤ c ∧ OwnR w' w.heap.size 71 X d.ls.length (ints .u32 d.ls)))
theorem run_indexW {X : Array Value} {j : Nat} {v : Value} (hj : j < 74) (hv : X[j]? = some v) (w : World) : (Instr.index 108 (.agg X) (.int .i64 (j : Int))).run Tryd.prog w = .ok v w := by
  have hu := Tryd.underlying108
  have h1 := Tryd.underlying71
  have hs : ∀ w, (sizeOf 71).run Tryd.prog w = .ok 1 w := fun w => by
    cases hq : Tryd.prog.info? 71 with
    | none => have := infoU32; rw [hq] at this; cases this
    | some i => have := infoU32; rw [hq] at this; simp at this; simp [sizeOf, typeInfo, hq, this]
  simp [Instr.index, run_underlying hu, asIntOf, part, isAgg, run_underlying h1, hs, hv, Sem.run_bind, go_sem]
  omega
theorem ret_dyad {fn : Func} {p u : Tmp} (h : fn.results = #[.cell p 25, .tmp u]) (tmps : Array Value) (w : World) (r : Nat) (cs : Array Value) (v : Value) (hp : tmps.getD p undef = .pointer (some ⟨r, 0, none⟩)) (hk : Blk w r 25 cs) (hs : (Tryd.prog.info? 25).map (·.size) = some cs.size) (hv : tmps.getD u undef = v) : (results fn tmps).run Tryd.prog w = .ok (.tuple #[.agg cs, v]) w := by
  rw [results_cell_tmp h, hp, hv]
  have := run_loadVar_row (P := Tryd.prog) w r 25 25 cs (0, 0) _ hk Tryd.underlying25 rfl hs
  simp [asAddr, Result.andThen, this]
set_option maxRecDepth 100000 in
set_option maxHeartbeats 8000000 in
theorem form_any (g : Nat) (sn : Bool) (e : Nat) (he : e ≤ 1024) (a : List Nat) (hn : a.length = 74) (ha : ∀ x ∈ a, x < 4294967296) (w : World) (k : Blk w g 128 (sumC sn (e : Int) a)) (hT : Tab w) :
    Calls Tryd.prog 80 #[.pointer (some ⟨g, 0, none⟩)] w (FrmP (formE sn (val 4294967296 a) e) w) := by
  obtain ⟨V, hV⟩ : ∃ V, V = w.alloc (.cells #[.bool false, .slice none 0 0, .int .i64 0] 25) := ⟨_, rfl⟩
  have hB : Below w.heap.size w V := by rw [hV]; exact (Below.refl _ _).alloc (Nat.le_refl _) _
  have kr : Blk V w.heap.size 25 #[.bool false, .slice none 0 0, .int .i64 0] := by rw [hV]; exact Blk.new w _ _
  have k0 : Blk V g 128 (sumC sn (e : Int) a) := by rw [hV]; exact k.alloc _
  have hT0 := hT.below hB hT.2
  have hgw := k.lt
  have hra : V.rangeAt g 3 (ints .u32 a) := k0.range 3 _ (by unfold sumC; simp [hn]; exact List.take_of_length_le (by simp [hn]))
  have hia : (Tryd.prog.info? 108).map (·.size) = some (ints .u32 a).length := by rw [List.length_map, hn]; exact (zero_of_info zeroW).2
  obtain ⟨X, hX⟩ : ∃ X, (ints .u32 a).toArray = X := ⟨_, rfl⟩
  have hXc : ∀ i, i < 74 → X[i]? = some (.int .u32 ((a.getD i 0 : Nat) : Int)) := fun i hi => by rw [← hX]; simp only [List.getElem?_toArray]; exact ints_at .u32 (by omega)
  have hXs : X.size = 74 := by rw [← hX, ints_size]; exact hn
  have hXl : X.toList = ints .u32 a := by rw [← hX]
  rw [← hXl] at hra hia
  clear hXl hX
  have gT := Lib.hid hT0
  have gk := Lib.hid k0
  have gr := Lib.hid kr
  have gB := Lib.hid hB
  clear hT hT0 k k0 kr hB
  go_enter Tryd.func80, Tryd.ntmps80
  go_upto_region 1 with (fail)
  rw [← hV]
  have hVs : V.heap.size = w.heap.size + 1 := by rw [hV]; simp
  clear hV
  go_wp2_with (refine wpList_load_mid rfl 108 (.tmp 12) rfl g 3 rfl X.toList _ hra Tryd.underlying108 rfl hia ?_)
  clear hra hia
  go_loopw [4, 5, 14] (fun lv hv i wr => ∃ (j lo hi : Nat), j ≤ 74 ∧ i = .int .i64 (j : Int) ∧ lv = .int .i64 (lo : Int) ∧ hv = .int .i64 (hi : Int) ∧ lo ≤ 2400 ∧ hi ≤ 2400 ∧ Hid (InvF a j lo hi) ∧ V = wr) (fun _ _ i _ => 74 - (intOf i).toNat)
  case atStart => exact ⟨0, 0, 0, Nat.zero_le _, rfl, rfl, rfl, by omega, by omega, Lib.hid (.inl ⟨rfl, rfl, fun i hi => by omega⟩), rfl⟩
  case round =>
    obtain ⟨j, lo, hi, hj, rfl, rfl, rfl, hlo, hhi, hI, rfl⟩ := hrel
    by_cases hlt : j < 74
    · have xa := getD_lt (B := 4294967296) (by omega) ha j
      have cx := hXc j hlt
      obtain ⟨x, hx⟩ : ∃ x, a.getD j 0 = x := ⟨_, rfl⟩
      rw [hx] at xa cx
      have i1 : (0 : Int) ≤ j := by omega
      have i2 : (j : Int) < 74 := by omega
      have hix := fun w => run_indexW hlt cx w
      by_cases hx0 : x = 0
      · have hI' := Lib.hid (inv_zero hI.out (by rw [hx, hx0]))
        subst hx0
        clear hx hI hXc cx
        go_wp2
        go_roundw
        case rel => exact ⟨j + 1, lo, hi, by omega, by go_num, rfl, rfl, hlo, hhi, hI', (by first | rfl | trivial)⟩
        case measure => simp [intOf] <;> omega
      · have t1 : ((x : Int) != 0) = true := by simp; omega
        have t2 : (x != 0) = true := by simpa using hx0
        have t3 : ((x : Int) == 0) = false := by simp; omega
        have t4 : (x == 0) = false := by simpa using hx0
        have hbp := bitLen_pos hx0 xa
        have hlen := sh_bits_Len32 (x : Int) V (by omega) (by omega)
        rw [Int.toNat_natCast] at hlen
        by_cases hh0 : hi = 0
        · subst hh0
          have hI' := inv_first hI.out (by rw [hx]; exact hx0) (by rw [hx]; exact xa)
          rw [hx] at hI'
          have htz := tz_any x xa hx0 V gT.out
          have hct := (Lib.lowest_bit 32 x hx0 xa).2
          obtain ⟨L, hL⟩ : ∃ L, Lib.bitLen x = L := ⟨_, rfl⟩
          obtain ⟨C, hC⟩ : ∃ C, Lib.ctz 32 x = C := ⟨_, rfl⟩
          rw [hL] at hI' hlen hbp
          rw [hC] at hI' htz hct
          replace hI' := Lib.hid hI'
          clear hx hI hXc cx hL hC
          go_wp2_with (first | (go_at_call 103; (with_reducible refine htz.mono ?_); rintro e w' ⟨rfl, rfl⟩) | (go_at_call 104; (with_reducible refine hlen.mono ?_); rintro e w' ⟨rfl, rfl⟩))
          go_roundw
          case rel => exact ⟨j + 1, 32 * j + C, 32 * j + L, by omega, by go_num, by go_num, by go_num, by omega, by omega, hI', (by first | rfl | trivial)⟩
          case measure => simp [intOf] <;> omega
        · have hI' := inv_more hI.out hh0 (by rw [hx]; exact hx0) (by rw [hx]; exact xa)
          rw [hx] at hI'
          obtain ⟨L, hL⟩ : ∃ L, Lib.bitLen x = L := ⟨_, rfl⟩
          rw [hL] at hI' hlen hbp
          replace hI' := Lib.hid hI'
          have t5 : ((hi : Int) == 0) = false := by simp; omega
          have t6 : (hi == 0) = false := by simpa using hh0
          clear hx hI hXc cx hL
          go_wp2_with (go_at_call 104; (with_reducible refine hlen.mono ?_); rintro e w' ⟨rfl, rfl⟩)
          go_roundw
          case rel => exact ⟨j + 1, lo, 32 * j + L, by omega, by go_num, rfl, by go_num, hlo, by omega, hI', (by first | rfl | trivial)⟩
          case measure => simp [intOf] <;> omega
    · obtain rfl : j = 74 := by omega
      have hE := inv_end ha (by rw [hn]; exact hI.out)
      clear hI hXc
      have ce : V.cell? ⟨g, 2, none⟩ = some (.int .i64 (e : Int)) := by rw [gk.out.cell]; exact sum_exp sn e a
      have cn : V.cell? ⟨g, 0, none⟩ = some (.bool sn) := by rw [gk.out.cell]; exact sum_neg sn e a
      have r0 := gr.out.cell 0
      have r1 := gr.out.cell 1
      have r2 := gr.out.cell 2
      simp only [lgA, lgZ, lgS] at r0 r1 r2
      have f0 := gr.out.frozen 0
      have f1 := gr.out.frozen 1
      have f2 := gr.out.frozen 2
      obtain ⟨R, hR⟩ : ∃ R, formE sn (val 4294967296 a) e = R := ⟨_, rfl⟩
      have gF := Lib.hid hR
      rcases hE with ⟨hV0, rfl, rfl⟩ | ⟨hVp, hlow, hbl, hpos⟩
      · have hR2 : R = some zdy := by rw [← hR]; unfold formE; rw [if_pos hV0]
        clear hR
        have gR := Lib.hid hR2
        clear hR2 hV0 ha hn
        go_wp2
        have kz : Blk (((V.setCell ⟨w.heap.size, 0, none⟩ (.bool false)).setCell ⟨w.heap.size, 1, none⟩ (.slice none 0 0)).setCell ⟨w.heap.size, 2, none⟩ (.int .i64 0)) w.heap.size 25 #[.bool false, .slice none 0 0, .int .i64 0] := by have h := ((gr.out.set_ 0 (.bool false)).set_ 1 (.slice none 0 0)).set_ 2 (.int .i64 0); simpa using h
        have hBz := ((gB.out.setCell (p := ⟨w.heap.size, 0, none⟩) (Nat.le_refl _) (.bool false)).setCell (p := ⟨w.heap.size, 1, none⟩) (Nat.le_refl _) (.slice none 0 0)).setCell (p := ⟨w.heap.size, 2, none⟩) (Nat.le_refl _) (.int .i64 0)
        refine bodyPost_ret (ret_dyad rfl _ _ w.heap.size #[.bool false, .slice none 0 0, .int .i64 0] (.int .i64 0) rfl kz (by kernel_rfl) rfl) rfl ?_
        exact ⟨hBz, .inr ⟨zdy, gF.out.trans gR.out, none, 0, rfl, Nat.le_refl _, OwnR.none_⟩⟩
      · obtain ⟨t, ht⟩ : ∃ t, min lo e = t := ⟨_, rfl⟩
        have hmin : min (lo : Int) (e : Int) = (t : Int) := by omega
        have tt : tzk e (val 4294967296 a) = t := by rw [tzk_min hVp, ← hlow, ht]
        have th : t < hi := by have := lowN_lt hVp; omega
        have te : t ≤ e := by omega
        have bs := bl_shift hVp (t := t) (by omega)
        rw [← hbl] at bs
        have hqp : 0 < val 4294967296 a / 2 ^ t := by
          rcases Nat.eq_zero_or_pos (val 4294967296 a / 2 ^ t) with h | h
          · rw [h] at bs
            have : bl 0 = 0 := by unfold bl; rw [dig_zero]; rfl
            omega
          · exact h
        have hlen := len_dig hqp
        rw [bs] at hlen
        obtain ⟨m, hm⟩ : ∃ m, (hi - t + 31) / 32 = m := ⟨_, rfl⟩
        rw [hm] at hlen
        unfold formE at hR
        rw [if_neg (by omega), tt, hlen] at hR
        have ht0 : ((hi : Int) == 0) = false := by simp; omega
        have ht1 : (hi == 0) = false := by simp; omega
        have d2 : decide ((1024 : Int) < (e : Int) - t) = false := decide_eq_false (by omega)
        have ghl := Lib.hid hlen
        clear hlow hbl bs tt ht hqp hlen
        by_cases hov : 1280 < hi - t
        · rw [if_pos (by omega)] at hR
          have gR := Lib.hid hR
          have d1 : decide ((1280 : Int) < (hi : Int) - t) = true := decide_eq_true (by omega)
          clear hR hVp hm ha hn
          go_wp2
          have kz : Blk (((V.setCell ⟨w.heap.size, 0, none⟩ (.bool false)).setCell ⟨w.heap.size, 1, none⟩ (.slice none 0 0)).setCell ⟨w.heap.size, 2, none⟩ (.int .i64 0)) w.heap.size 25 #[.bool false, .slice none 0 0, .int .i64 0] := by have h := ((gr.out.set_ 0 (.bool false)).set_ 1 (.slice none 0 0)).set_ 2 (.int .i64 0); simpa using h
          have hBz := ((gB.out.setCell (p := ⟨w.heap.size, 0, none⟩) (Nat.le_refl _) (.bool false)).setCell (p := ⟨w.heap.size, 1, none⟩) (Nat.le_refl _) (.slice none 0 0)).setCell (p := ⟨w.heap.size, 2, none⟩) (Nat.le_refl _) (.int .i64 0)
          refine bodyPost_ret (ret_dyad rfl _ _ w.heap.size #[.bool false, .slice none 0 0, .int .i64 0] (.int .i64 10) rfl kz (by kernel_rfl) rfl) rfl ?_
          exact ⟨hBz, .inl ⟨gF.out.trans gR.out.symm, rfl⟩⟩
        · rw [if_neg (by omega)] at hR
          have gR := Lib.hid hR
          have d1 : decide ((1280 : Int) < (hi : Int) - t) = false := decide_eq_false (by omega)
          clear hR hVp
          have hm40 : m ≤ 40 := by omega
          have hmk := run_z32 m (by omega)
          have hmI : ((hi : Int) - t + 31).tdiv 32 = (m : Int) := by rw [Int.tdiv_eq_ediv_of_nonneg (by omega)]; omega
          have hmI2 : ((hi : Int) - t + 31) / 32 = (m : Int) := by omega
          have SS : ∀ w', Below V.heap.size V w' → w'.cell? ⟨g, 0, none⟩ = some (.bool sn) ∧ w'.cell? ⟨g, 2, none⟩ = some (.int .i64 (e : Int)) := fun w' h => by
            have k1 := gk.out.below h gk.out.lt
            exact ⟨by rw [k1.cell]; exact sum_neg sn e a, by rw [k1.cell]; exact sum_exp sn e a⟩
          have hBV : Below V.heap.size V V := Below.refl _ _
          go_wp2_with fail
          clear ce cn r0 r1 r2 f0 f1 f2
          have hw1 : IntKind.i64.wrap ((hi : Int) - t) = (hi : Int) - t := IntWalk.i64_in _ (by omega)
          have hw2 : IntKind.i64.wrap ((hi : Int) - t + 31) = (hi : Int) - t + 31 := IntWalk.i64_in _ (by omega)
          have hw3 : IntKind.i64.wrap ((m : Int)) = (m : Int) := IntWalk.i64_in _ (by omega)
          obtain ⟨E, hE⟩ : ∃ E, e - t = E := ⟨_, rfl⟩
          have hw4 : IntKind.i64.wrap ((e : Int) - t) = (E : Int) := by rw [show (e : Int) - t = (E : Int) by omega]; exact IntWalk.i64_in _ (by omega)
          rw [hE] at gR
          clear hm hE
          go_cut [8] (fun s wx => ∃ (go gz : Nat), s = .pointer (some ⟨go, 0, none⟩) ∧ V.heap.size ≤ go ∧ V.heap.size ≤ gz ∧ go ≠ gz ∧ Blk wx go 25 #[.bool sn, .slice (some ⟨gz, 0, none⟩) m m, .int .i64 (E : Int)] ∧ Blk wx gz 71 (ints .u32 (List.replicate m 0)).toArray ∧ Below V.heap.size V wx)
          case first =>
            go_region_held3 (fun w' => w'.cell? ⟨g, 0, none⟩ = some (.bool sn) ∧ w'.cell? ⟨g, 2, none⟩ = some (.int .i64 (e : Int))) ((refine SS _ ?_; (repeat first | with_reducible assumption | with_reducible exact Below.refl _ _ | with_reducible refine Below.drew ?_ | (with_reducible refine Below.setCell ?_ (by first | omega | (simp only [World.size_alloc, World.size_drew, World.size_setCell]; omega)) _) | (with_reducible refine Below.alloc ?_ (by first | omega | (simp only [World.size_alloc, World.size_drew, World.size_setCell]; omega)) _)))) (first | fail)
            · go_wp2_with fail
              go_meet
              refine ⟨w.heap.size + 1 + 1, w.heap.size + 1, rfl, by omega, by omega, by omega, ?_, ?_, ?_⟩
              · have h := (Blk.new (V.alloc (Z32 m)) 25 #[.bool sn, .slice (some ⟨w.heap.size + 1, 0, none⟩) m m, .int .i64 (E : Int)]).drew
                rw [World.size_alloc, hVs] at h
                exact h
              · have h := ((Blk.new V 71 (ints .u32 (List.replicate m 0)).toArray).alloc (.cells #[.bool sn, .slice (some ⟨w.heap.size + 1, 0, none⟩) m m, .int .i64 (E : Int)] 25)).drew
                rw [hVs] at h
                exact h
              · exact Below.drew (((Below.refl V.heap.size V).alloc (Nat.le_refl _) _).alloc (by rw [World.size_alloc]; omega) _)
            · go_wp2_with fail
              go_meet
              refine ⟨w.heap.size + 1, w.heap.size + 1 + 1, rfl, by omega, by omega, by omega, ?_, ?_, ?_⟩
              · have h := ((Blk.new V 25 #[.bool sn, .slice (some ⟨w.heap.size + 1 + 1, 0, none⟩) m m, .int .i64 (E : Int)]).alloc (Z32 m)).drew
                rw [hVs] at h
                exact h
              · have h := (Blk.new (V.alloc (.cells #[.bool sn, .slice (some ⟨w.heap.size + 1 + 1, 0, none⟩) m m, .int .i64 (E : Int)] 25)) 71 (ints .u32 (List.replicate m 0)).toArray).drew
                rw [World.size_alloc, hVs] at h
                exact h
              · exact Below.drew (((Below.refl V.heap.size V).alloc (Nat.le_refl _) _).alloc (by rw [World.size_alloc]; omega) _)
          case rest =>
            obtain ⟨go, gz, rfl, hgo, hgz, hne, ko, kz, hBw⟩ := hcut
            clear hBV SS hmk hw1 hw2 hw3 hw4 hmI hmI2
            have c1 := ko.cell 1
            simp only [lgA, lgZ, lgS] at c1
            go_wp2
            clear c1
            go_loopw [80] (fun i wr => ∃ (j : Nat) (L : List Nat), j ≤ m ∧ i = .int .i64 (j : Int) ∧ Hid (L.length = m) ∧ Hid (∀ q, q < j → L.getD q 0 = (dig LB (val 4294967296 a / 2 ^ t)).getD q 0) ∧ Blk wr go 25 #[.bool sn, .slice (some ⟨gz, 0, none⟩) m m, .int .i64 (E : Int)] ∧ Blk wr gz 71 (ints .u32 L).toArray ∧ Below V.heap.size V wr) (fun i _ => m - (intOf i).toNat)
            case atStart => exact ⟨0, List.replicate m 0, Nat.zero_le _, rfl, Lib.hid (by simp), Lib.hid (fun q hq => by omega), ko, kz, hBw⟩
            case round =>
              clear ko kz hBw
              obtain ⟨j, L, hj, rfl, hLl, hLd, ko, kz, hBw⟩ := hrel
              by_cases hlt : j < m
              · obtain ⟨s, hs⟩ : ∃ s, shr1 (a.getD (j + t / 32) 0) (a.getD (j + t / 32 + 1) 0) (t % 32) = s := ⟨_, rfl⟩
                have hsd := at_dig ha j (t / 32) (t % 32) (Nat.mod_lt _ (by decide))
                rw [hs, show 32 * (t / 32) + t % 32 = t by omega] at hsd
                have hsl : s < 4294967296 := by rw [hsd, dig_at]; exact Nat.mod_lt _ (by decide)
                replace hsd := Lib.hid hsd
                have hat : ∀ w', Below wr.heap.size wr w' → Calls Tryd.prog 105 #[.pointer (some ⟨g, 0, none⟩), .int .i64 (j : Int), .int .i64 (t : Int)] w' fun en w'' => en = .returned (.int .u32 (s : Int)) ∧ Below w'.heap.size w' w'' := fun w' h => at_any g sn e a hn ha w' ((gk.out.below hBw gk.out.lt).below h (Nat.lt_of_lt_of_le gk.out.lt hBw.size)) j t (by omega) (by omega) s hs
                have SS : ∀ w', Below wr.heap.size wr w' → w'.cell? ⟨go, 1, none⟩ = some (.slice (some ⟨gz, 0, none⟩) m m) := fun w' h => by rw [(ko.below h ko.lt).cell]; rfl
                have zc : wr.cell? ⟨gz, j, none⟩ = some (.int .u32 ((L.getD j 0 : Nat) : Int)) := by rw [kz.cell]; simp only [List.getElem?_toArray]; exact ints_at .u32 (by rw [hLl.out]; exact hlt)
                have zf := kz.frozen j
                have zl := kz.lt
                have zo := ko.lt
                obtain ⟨u, hu⟩ : ∃ u, L.getD j 0 = u := ⟨_, rfl⟩
                rw [hu] at zc
                have i1 : (0 : Int) ≤ j := by omega
                have i2 : (j : Int) < m := by omega
                have hBd : Below wr.heap.size wr wr.drew := Below.drew (Below.refl _ _)
                clear hu hs
                go_wp2_with fail
                go_region_held3 (fun w' => w'.cell? ⟨go, 1, none⟩ = some (.slice (some ⟨gz, 0, none⟩) m m)) (first | exact SS _ hBd | exact SSs) (first | (go_at_call 105; (with_reducible refine (hat _ hBd).mono ?_); rintro en w6 ⟨rfl, hb6⟩; have hBd := hBd.trans (hb6.mono hBd.size); have kz6 := kz.below hBd zl; have ko6 := ko.below hBd zo; have zc6 : w6.cell? ⟨gz, j, none⟩ = some (.int .u32 (u : Int)) := (hBd.cell (p := ⟨gz, j, none⟩) zl).trans zc; have zf6 := kz6.frozen j; have zl6 := kz6.lt; have SSs : (w6.setCell ⟨gz, j, none⟩ (.int .u32 (s : Int))).cell? ⟨go, 1, none⟩ = some (.slice (some ⟨gz, 0, none⟩) m m) := by rw [(ko6.far (p := ⟨gz, j, none⟩) (by show go ≠ gz; omega) (.int .u32 (s : Int))).cell]; rfl))
                have kz7 := kz6.set_ j (.int .u32 (s : Int))
                rw [ints_set _ _ _ (by omega), Int.toNat_natCast] at kz7
                have ko7 := ko6.far (p := ⟨gz, j, none⟩) (by show go ≠ gz; omega) (.int .u32 (s : Int))
                have hB7 : Below V.heap.size V (w6.setCell ⟨gz, j, none⟩ (.int .u32 (s : Int))) := (hBw.trans (hBd.mono hBw.size)).setCell (p := ⟨gz, j, none⟩) hgz _
                have hLl' : Hid ((L.set j s).length = m) := Lib.hid (by rw [List.length_set]; exact hLl.out)
                have hLd' : Hid (∀ q, q < j + 1 → (L.set j s).getD q 0 = (dig LB (val 4294967296 a / 2 ^ t)).getD q 0) := Lib.hid (fun q hq => by
                  rcases Nat.lt_or_ge q j with h | h
                  · rw [getD_set (by rw [hLl.out]; exact hlt), if_neg (by omega)]
                    exact hLd.out q h
                  · obtain rfl : q = j := by omega
                    rw [getD_set (by rw [hLl.out]; exact hlt), if_pos rfl]
                    exact hsd.out)
                go_wp2
                go_roundw
                case rel =>
                  refine ⟨_, _, _, _, _, _, _, _, _, _, _, _, _, ?_, rfl⟩
                  exact ⟨j + 1, L.set j s, by omega, by go_num, hLl', hLd', ko7, kz7, hB7⟩
                case measure => simp [intOf] <;> omega
              · obtain rfl : j = m := by omega
                have hLe : L = dig LB (val 4294967296 a / 2 ^ t) := by
                  refine List.ext_getElem (by rw [hLl.out, ghl.out]) fun q h1 h2 => ?_
                  have := hLd.out q (by have := hLl.out; omega)
                  rwa [List.getD_eq_getElem?_getD, List.getElem?_eq_getElem h1, List.getD_eq_getElem?_getD, List.getElem?_eq_getElem h2] at this
                have gRL : Hid (formE sn (val 4294967296 a) e = some ⟨sn, L, (E : Int)⟩) := Lib.hid (by rw [gF.out, ← gR.out, hLe])
                have kr := gr.out.below hBw gr.out.lt
                have r0 := kr.cell 0
                have r1 := kr.cell 1
                have r2 := kr.cell 2
                have o0 := ko.cell 0
                have o1 := ko.cell 1
                have o2 := ko.cell 2
                simp only [lgA, lgZ, lgS] at r0 r1 r2 o0 o1 o2
                have f0 := kr.frozen 0
                have f1 := kr.frozen 1
                have f2 := kr.frozen 2
                have hOw := own_of_make kz (show w.heap.size + 1 ≤ gz by omega)
                rw [ints_size, hLl.out] at hOw
                have kz3 : Blk (((wr.setCell ⟨w.heap.size, 0, none⟩ (.bool sn)).setCell ⟨w.heap.size, 1, none⟩ (.slice (some ⟨gz, 0, none⟩) j j)).setCell ⟨w.heap.size, 2, none⟩ (.int .i64 (E : Int))) w.heap.size 25 #[.bool sn, .slice (some ⟨gz, 0, none⟩) j j, .int .i64 (E : Int)] := by have h := ((kr.set_ 0 (.bool sn)).set_ 1 (.slice (some ⟨gz, 0, none⟩) j j)).set_ 2 (.int .i64 (E : Int)); simpa using h
                have hO3 := ((hOw.far (p := ⟨w.heap.size, 0, none⟩) (Nat.lt_succ_self _) (.bool sn)).far (p := ⟨w.heap.size, 1, none⟩) (Nat.lt_succ_self _) (.slice (some ⟨gz, 0, none⟩) j j)).far (p := ⟨w.heap.size, 2, none⟩) (Nat.lt_succ_self _) (.int .i64 (E : Int))
                have hBz := (((gB.out.trans (hBw.mono gB.out.size)).setCell (p := ⟨w.heap.size, 0, none⟩) (Nat.le_refl _) (.bool sn)).setCell (p := ⟨w.heap.size, 1, none⟩) (Nat.le_refl _) (.slice (some ⟨gz, 0, none⟩) j j)).setCell (p := ⟨w.heap.size, 2, none⟩) (Nat.le_refl _) (.int .i64 (E : Int))
                have gO3 := Lib.hid hO3
                have gll := hLl.out
                clear hLe hLd hLl gF gR ghl ko kz kr hOw hO3 ha hn hXs gT gk gr gB hBw
                go_wp2
                refine bodyPost_ret (ret_dyad rfl _ _ w.heap.size #[.bool sn, .slice (some ⟨gz, 0, none⟩) j j, .int .i64 (E : Int)] (.int .i64 0) rfl kz3 (by kernel_rfl) rfl) rfl ?_
                refine ⟨hBz, .inr ⟨⟨sn, L, (E : Int)⟩, gRL.out, some ⟨gz, 0, none⟩, j, ?_, ?_, ?_⟩⟩
                · rw [show (⟨sn, L, (E : Int)⟩ : Dy).ls.length = j from gll]
                · exact Nat.le_of_eq gll
                · rw [show (⟨sn, L, (E : Int)⟩ : Dy).ls.length = j from gll]
                  exact gO3.out.base_le (Nat.le_succ _)
end Go.Proofs.YtdmjdpaehnhdoaaDoor
