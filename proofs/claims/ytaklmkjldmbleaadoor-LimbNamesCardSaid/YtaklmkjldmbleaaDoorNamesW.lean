/- Limb's Door: the walk of the law LimbNames. -/
import Derived.Test.YtaklmkjldmbleaaDoorAl
import Derived.Test.YtaklmkjldmbleaaDoorP2
namespace Go.Proofs.YtaklmkjldmbleaaDoor
open Go.ChangeShapes Go.WideShapes Go.ChangeAt Go.RowKit
set_option linter.unusedSimpArgs false
set_option linter.unusedVariables false
/-- Forty limbs that are the greatest there are. -/
def top : List Nat := List.replicate 40 4294967295
theorem top_len : top.length = 40 := by unfold top; simp
theorem top_lt : ∀ x ∈ top, x < 4294967296 := by
  intro x hx
  unfold top at hx
  rw [(List.mem_replicate.1 hx).2]
  omega
theorem rep_val (n : Nat) : val 4294967296 (List.replicate n 4294967295) + 1 = 4294967296 ^ n := by
  induction n with
  | zero => rfl
  | succ n ih =>
    rw [List.replicate_succ, val_cons, Nat.pow_succ]
    omega
theorem top_may : mayB top = true := by unfold mayB; exact decide_eq_true ⟨by rw [top_len]; omega, Or.inr (by decide)⟩
theorem over_ge {N : Nat} (h : 4294967296 ^ 40 ≤ N) : overS N = ([], 10) := by
  unfold overS
  rw [if_neg (by have := dig_len_gt (by omega) h; omega)]
theorem add_top : addS top [1] = ([], 10) := by
  unfold addS
  rw [show both top [1] = true by unfold both; rw [top_may]; rfl, if_pos rfl, show val 4294967296 [1] = 1 from rfl]
  exact over_ge (Nat.le_of_eq (rep_val 40).symm)
theorem mul_top : mulS top [2] = ([], 10) := by
  unfold mulS
  rw [show both top [2] = true by unfold both; rw [top_may]; rfl, if_pos rfl, show val 4294967296 [2] = 2 from rfl]
  refine over_ge ?_
  have h := rep_val 40
  change val 4294967296 top + 1 = _ at h
  obtain ⟨E, hE⟩ : ∃ E, 4294967296 ^ 40 = E := ⟨_, rfl⟩
  obtain ⟨v, hv⟩ : ∃ v, val 4294967296 top = v := ⟨_, rfl⟩
  rw [hE] at h ⊢
  rw [hv] at h ⊢
  have : 4294967296 ≤ E := by rw [← hE]; exact Nat.le_self_pow (by omega) _
  omega
theorem pow_40 {E : Nat} (hE : 32 * 40 = E) : (4294967296 : Nat) ^ 40 = 2 ^ E := by rw [pow32, hE]
theorem left_1280 : leftS [1] 1280 = ([], 10) := by
  unfold leftS
  rw [if_pos (by decide), if_neg (by decide), if_neg (by decide), if_neg (by decide), show val 4294967296 [1] = 1 from rfl, Nat.one_mul]
  refine over_ge ?_
  obtain ⟨E, hE⟩ : ∃ E, (1280 : Int).toNat = E := ⟨_, rfl⟩
  rw [hE, pow_40 (E := E) (by rw [← hE]; rfl)]
  exact Nat.le_refl _
theorem left_1279 : ∃ L, leftS [1] 1279 = (L, 0) ∧ L.length = 40 ∧ L.getD 39 0 = 2147483648 := by
  unfold leftS
  obtain ⟨E, hE⟩ : ∃ E, (1279 : Int).toNat = E := ⟨_, rfl⟩
  have hE2 : 32 * 39 + 31 = E := by rw [← hE]; rfl
  obtain ⟨F, hF⟩ : ∃ F, 32 * 39 = F := ⟨_, rfl⟩
  rw [hF] at hE2
  rw [if_pos (by decide), if_neg (by decide), if_neg (by decide), if_neg (by decide), show val 4294967296 [1] = 1 from rfl, Nat.one_mul, hE]
  have hv : val 4294967296 (List.replicate 39 0 ++ [2147483648]) = 2 ^ E := by
    rw [val_app, val_zero (l := List.replicate _ _) (fun x hx => (List.mem_replicate.1 hx).2), Nat.zero_add, List.length_replicate, val_cons, val_nil, Nat.mul_zero, Nat.add_zero, pow32, hF, show 2147483648 = 2 ^ 31 by decide, ← Nat.pow_add, hE2]
  have he : dig 4294967296 (2 ^ E) = List.replicate 39 0 ++ [2147483648] := by
    rw [← hv]
    refine (canon_eq (by omega) ?_ (Or.inr (by decide))).symm
    intro x hx
    rcases List.mem_append.1 hx with h | h
    · rw [(List.mem_replicate.1 h).2]; omega
    · rw [List.mem_singleton.1 h]; omega
  refine ⟨_, by unfold overS; rw [he, if_pos (by decide)], by decide, by decide⟩
theorem left_neg : leftS [1] (-1) = ([], 2) := by
  unfold leftS
  rw [if_pos (by decide), if_pos (by decide)]
theorem left_nil : leftS [] 4611686018427387904 = ([], 0) := by
  unfold leftS
  rw [if_pos (by decide), if_neg (by decide), if_pos (by rfl)]
theorem right_top : rightS top 4611686018427387904 = ([], 0) := by
  unfold rightS
  rw [if_pos top_may, if_neg (by decide), Nat.div_eq_of_lt, dig_zero]
  have h : val 4294967296 top < 4294967296 ^ 40 := by rw [← top_len]; exact val_lt top_lt
  rw [pow32] at h
  obtain ⟨E, hE⟩ : ∃ E, 32 * 40 = E := ⟨_, rfl⟩
  obtain ⟨F, hF⟩ : ∃ F, (4611686018427387904 : Int).toNat = F := ⟨_, rfl⟩
  rw [hE] at h
  rw [hF]
  exact Nat.lt_of_lt_of_le h (Nat.pow_le_pow_right (by omega) (by omega))
theorem sub_12 : subS [1] [2] = ([], 11) := by
  unfold subS
  rw [if_pos (by decide), if_pos (by decide)]
theorem div_top : divS top [] = ([], [], 2) := by
  unfold divS
  rw [show both top [] = true by unfold both; rw [top_may]; rfl, if_pos rfl, if_pos (by rfl)]
theorem cmp_0 : cmpS [0] [] = (0, 8) := by
  unfold cmpS
  rw [if_neg (by decide)]
theorem low_nil : lowS [] = (0, 0) := by
  unfold lowS
  rw [if_pos (by decide)]
  rfl
theorem bits_41 : bitsS (List.replicate 41 0) = (0, 8) := by
  unfold bitsS
  rw [if_neg (by decide)]
theorem e10may : mayE [1, 0] = 8 := by decide
theorem enilmay : mayE [] = 0 := by decide
def Dz (n : Nat) : Array Value := (ints .u32 (List.replicate n 0)).toArray
set_option maxRecDepth 100000 in
set_option maxHeartbeats 16000000 in
theorem LimbNames.walk (w : World) (hT : Tab w) : Calls Tryd.prog 7 #[] w fun en w' => en = .returned (.bool true) ∧ Below w.heap.size w w' := by
  have hmk : ∀ w' : World, (Instr.makeSlice 22 (.int .i64 40) (.int .i64 40)).run Tryd.prog w' = .ok (.slice (some ⟨w'.heap.size, 0, none⟩) 40 40) (w'.alloc (Z32 40)) := fun w' => run_z32 40 (by omega) w'
  have hmk2 : ∀ w' : World, (Instr.makeSlice 22 (.int .i64 41) (.int .i64 41)).run Tryd.prog w' = .ok (.slice (some ⟨w'.heap.size, 0, none⟩) 41 41) (w'.alloc (Z32 41)) := fun w' => run_z32 41 (by omega) w'
  obtain ⟨Z, hZ⟩ : ∃ Z, Z32 40 = Z := ⟨_, rfl⟩
  obtain ⟨Z2, hZ2⟩ : ∃ Z, Z32 41 = Z := ⟨_, rfl⟩
  simp only [hZ, hZ2] at hmk hmk2
  obtain ⟨W1, hW1⟩ : ∃ W, W = w.alloc Z := ⟨_, rfl⟩
  have hO : OwnR W1 w.heap.size 45 (some ⟨w.heap.size, 0, none⟩) 40 (ints .u32 (List.replicate 40 0)) := by
    rw [hW1, ← hZ]
    exact own_of_make (Blk.new w 45 (ints .u32 (List.replicate 40 0)).toArray) (Nat.le_refl _)
  have bW : Below w.heap.size w W1 := by rw [hW1]; exact (Below.refl _ _).alloc (Nat.le_refl _) _
  have hB2 : ∀ w' : World, Reads (w'.alloc Z2) (w'.heap.size + 1) 1 (some ⟨w'.heap.size, 0, none⟩) 41 (ints .u32 (List.replicate 41 0)) := by
    intro w'
    rw [← hZ2]
    exact lit_reads w' (List.replicate 41 0) (by simp)
  have gB2 := Lib.hid hB2
  clear hZ hZ2 hB2
  obtain ⟨Lx, hLx, hLl, hL39⟩ := left_1279
  have gLx := Lib.hid hLx
  have gLl := Lib.hid hLl
  have gL39 := Lib.hid hL39
  clear hLx hLl hL39
  have gtl := Lib.hid top_lt
  have gtn := Lib.hid top_len
  go_enter Tryd.func7, Tryd.ntmps7
  go_wp2
  rw [← hW1]
  clear hW1 hmk
  go_loopw [2] (fun i wr => ∃ k : Nat, k ≤ 40 ∧ i = .int .i64 (k : Int) ∧ OwnR wr w.heap.size 45 (some ⟨w.heap.size, 0, none⟩) 40 (ints .u32 (List.replicate k 4294967295 ++ List.replicate (40 - k) 0)) ∧ Below w.heap.size w wr) (fun i _ => 40 - (intOf i).toNat)
  case atStart => exact ⟨0, Nat.zero_le _, rfl, hO, bW⟩
  case round =>
    clear hO bW
    obtain ⟨k, hk, rfl, hO, bw⟩ := hrel
    by_cases hlt : k < 40
    · obtain ⟨g, hg, hb, hl, hc, hf, hs⟩ := hO.at_ hlt
      injection hg with hg
      injection hg with hg _ _
      subst hg
      have hs7 := hs (.int .u32 4294967295)
      rw [show (ints .u32 (List.replicate k 4294967295 ++ List.replicate (40 - k) 0)).set k (.int .u32 4294967295) = ints .u32 (List.replicate (k + 1) 4294967295 ++ List.replicate (40 - (k + 1)) 0) by
        rw [show 40 - k = (40 - (k + 1)) + 1 by omega, List.replicate_succ (n := 40 - (k + 1)), List.replicate_succ']
        simp [ints, List.set_append_right]] at hs7
      have hB7 := bw.setCell (p := ⟨w.heap.size, k, none⟩) (Nat.le_refl _) (.int .u32 4294967295)
      have i1 : (0 : Int) ≤ k := by omega
      have i2 : (k : Int) < 40 := by omega
      obtain ⟨u, hu⟩ : ∃ u, (ints .u32 (List.replicate k 4294967295 ++ List.replicate (40 - k) 0))[k]? = u := ⟨_, rfl⟩
      have hcs : ∃ v, u = some v := by rw [← hu]; exact ⟨_, List.getElem?_eq_getElem (by simp [ints]; omega)⟩
      rw [hu] at hc
      obtain ⟨v, rfl⟩ := hcs
      clear hO hs hu bw
      go_wp2
      go_roundw
      case rel => exact ⟨k + 1, by omega, by go_num, hs7, hB7⟩
      case measure => simp [intOf] <;> omega
    · obtain rfl : k = 40 := by omega
      replace hT := hT.below bw hT.2
      have rt : Reads wr wr.heap.size 1 (some ⟨w.heap.size, 0, none⟩) 40 (ints .u32 top) := hO.reads
      clear hO
      go_wp2_with fail
      refine (ofR (x := 1) (L := [1]) (m := 1) (by decide) e1 rfl _).mono ?_
      rintro en v1 ⟨Aa, rfl, ra, hb⟩
      replace hT := hT.below hb hT.2
      replace rt := (rt.below hb).more hb.size
      replace bw := bw.trans (hb.mono bw.size)
      clear hb
      go_wp2_with fail
      refine (addR (a := top) (b := [1]) (L := []) (m := 0) rfl (some ⟨w.heap.size, 0, none⟩) Aa 40 1 gtn.out rfl gtl.out (lit_lt (by decide)) _ rt ra add_top).mono ?_
      rintro en v2 ⟨X1, x1, rfl, _, _, hb⟩
      replace hT := hT.below hb hT.2
      replace rt := (rt.below hb).more hb.size
      replace ra := (ra.below hb).more hb.size
      replace bw := bw.trans (hb.mono bw.size)
      clear hb
      go_wp2_with fail
      clear ra
      refine (ofR (x := 2) (L := [2]) (m := 1) (by decide) e2 rfl _).mono ?_
      rintro en v3 ⟨Aa, rfl, ra, hb⟩
      replace hT := hT.below hb hT.2
      replace rt := (rt.below hb).more hb.size
      replace bw := bw.trans (hb.mono bw.size)
      clear hb
      go_wp2_with fail
      refine (mulR (a := top) (b := [2]) (L := []) (m := 0) rfl (some ⟨w.heap.size, 0, none⟩) Aa 40 1 gtn.out rfl gtl.out (lit_lt (by decide)) _ rt ra mul_top).mono ?_
      rintro en v4 ⟨X2, x2, rfl, _, _, hb⟩
      replace hT := hT.below hb hT.2
      replace rt := (rt.below hb).more hb.size
      replace ra := (ra.below hb).more hb.size
      replace bw := bw.trans (hb.mono bw.size)
      clear hb
      go_wp2_with fail
      clear ra
      refine (ofR (x := 1) (L := [1]) (m := 1) (by decide) e1 rfl _).mono ?_
      rintro en v5 ⟨Aa, rfl, ra, hb⟩
      replace hT := hT.below hb hT.2
      replace rt := (rt.below hb).more hb.size
      replace bw := bw.trans (hb.mono bw.size)
      clear hb
      go_wp2_with fail
      refine (leftR (a := [1]) (L := []) (m := 0) rfl Aa 1 rfl (lit_lt (by decide)) _ ra left_1280).mono ?_
      rintro en v6 ⟨X3, x3, rfl, _, _, hb⟩
      replace hT := hT.below hb hT.2
      replace rt := (rt.below hb).more hb.size
      replace ra := (ra.below hb).more hb.size
      replace bw := bw.trans (hb.mono bw.size)
      clear hb
      go_wp2_with fail
      clear ra
      refine (ofR (x := 1) (L := [1]) (m := 1) (by decide) e1 rfl _).mono ?_
      rintro en v7 ⟨Aa, rfl, ra, hb⟩
      replace hT := hT.below hb hT.2
      replace rt := (rt.below hb).more hb.size
      replace bw := bw.trans (hb.mono bw.size)
      clear hb
      go_wp2_with fail
      refine (leftR (a := [1]) gLl.out Aa 1 rfl (lit_lt (by decide)) _ ra gLx.out).mono ?_
      rintro en v8 ⟨X4, x4, rfl, hx4, rx, hb⟩
      replace hT := hT.below hb hT.2
      replace rt := (rt.below hb).more hb.size
      replace ra := (ra.below hb).more hb.size
      replace bw := bw.trans (hb.mono bw.size)
      clear hb
      go_wp2_with fail
      clear ra
      refine (ofR (x := 1) (L := [1]) (m := 1) (by decide) e1 rfl _).mono ?_
      rintro en v9 ⟨Aa, rfl, ra, hb⟩
      replace hT := hT.below hb hT.2
      replace rt := (rt.below hb).more hb.size
      replace rx := (rx.below hb).more hb.size
      replace bw := bw.trans (hb.mono bw.size)
      clear hb
      go_wp2_with fail
      refine (leftR (a := [1]) (L := []) (m := 0) rfl Aa 1 rfl (lit_lt (by decide)) _ ra left_neg).mono ?_
      rintro en v10 ⟨X5, x5, rfl, _, _, hb⟩
      replace hT := hT.below hb hT.2
      replace rt := (rt.below hb).more hb.size
      replace rx := (rx.below hb).more hb.size
      replace ra := (ra.below hb).more hb.size
      replace bw := bw.trans (hb.mono bw.size)
      clear hb
      go_wp2_with fail
      clear ra
      refine (leftR (a := []) (L := []) (n := 0) (m := 0) rfl none 0 rfl (lit_lt (by decide)) _ Reads.none_ left_nil).mono ?_
      rintro en v11 ⟨X6, x6, rfl, hx6, r6, hb⟩
      replace hT := hT.below hb hT.2
      replace rt := (rt.below hb).more hb.size
      replace rx := (rx.below hb).more hb.size
      replace bw := bw.trans (hb.mono bw.size)
      clear hb
      go_wp2_with fail
      refine (rightR (a := top) (L := []) (m := 0) rfl (some ⟨w.heap.size, 0, none⟩) 40 gtn.out gtl.out _ rt (by omega) (Nat.le_refl _) right_top).mono ?_
      rintro en v12 ⟨X7, x7, rfl, hx7, r7, hb⟩
      replace hT := hT.below hb hT.2
      replace rt := (rt.below hb).more hb.size
      replace rx := (rx.below hb).more hb.size
      replace r6 := (r6.below hb).more hb.size
      replace bw := bw.trans (hb.mono bw.size)
      clear hb
      go_wp2_with fail
      refine (ofR (x := 1) (L := [1]) (m := 1) (by decide) e1 rfl _).mono ?_
      rintro en v13 ⟨Aa, rfl, ra, hb⟩
      replace hT := hT.below hb hT.2
      replace rt := (rt.below hb).more hb.size
      replace rx := (rx.below hb).more hb.size
      replace r6 := (r6.below hb).more hb.size
      replace r7 := (r7.below hb).more hb.size
      replace bw := bw.trans (hb.mono bw.size)
      clear hb
      go_wp2_with fail
      refine (ofR (x := 2) (L := [2]) (m := 1) (by decide) e2 rfl _).mono ?_
      rintro en v14 ⟨Ab, rfl, rb, hb⟩
      replace hT := hT.below hb hT.2
      replace rt := (rt.below hb).more hb.size
      replace rx := (rx.below hb).more hb.size
      replace r6 := (r6.below hb).more hb.size
      replace r7 := (r7.below hb).more hb.size
      replace ra := (ra.below hb).more hb.size
      replace bw := bw.trans (hb.mono bw.size)
      clear hb
      go_wp2_with fail
      refine (subR (a := [1]) (b := [2]) (L := []) (m := 0) rfl Aa Ab 1 1 rfl rfl (lit_lt (by decide)) (lit_lt (by decide)) _ ra rb sub_12).mono ?_
      rintro en v15 ⟨X8, x8, rfl, _, _, hb⟩
      replace hT := hT.below hb hT.2
      replace rt := (rt.below hb).more hb.size
      replace rx := (rx.below hb).more hb.size
      replace r6 := (r6.below hb).more hb.size
      replace r7 := (r7.below hb).more hb.size
      replace ra := (ra.below hb).more hb.size
      replace rb := (rb.below hb).more hb.size
      replace bw := bw.trans (hb.mono bw.size)
      clear hb
      go_wp2_with fail
      clear ra rb
      refine (divR (a := top) (b := []) (q := []) (r := []) (n2 := 0) (some ⟨w.heap.size, 0, none⟩) none 40 0 gtn.out rfl gtl.out (lit_lt (by decide)) _ rt Reads.none_ (mq := 0) (mr := 0) rfl rfl div_top).mono ?_
      rintro en v16 ⟨X9, x9, Y9, y9, rfl, _, _, hb⟩
      replace hT := hT.below hb hT.2
      replace rt := (rt.below hb).more hb.size
      replace rx := (rx.below hb).more hb.size
      replace r6 := (r6.below hb).more hb.size
      replace r7 := (r7.below hb).more hb.size
      replace bw := bw.trans (hb.mono bw.size)
      clear hb
      go_wp2_with fail
      obtain ⟨u1, hu1⟩ : ∃ V, V = v16.alloc (.cells #[.int .u32 0] 45) := ⟨_, rfl⟩
      rw [← hu1]
      have rl1 : Reads u1 u1.heap.size 1 (some ⟨v16.heap.size, 0, none⟩) 1 (ints .u32 [0]) := by rw [hu1, World.size_alloc]; exact lit_reads v16 [0] rfl
      have hb : Below v16.heap.size v16 u1 := by rw [hu1]; exact (Below.refl _ _).alloc (Nat.le_refl _) _
      clear hu1
      replace hT := hT.below hb hT.2
      replace rt := (rt.below hb).more hb.size
      replace rx := (rx.below hb).more hb.size
      replace r6 := (r6.below hb).more hb.size
      replace r7 := (r7.below hb).more hb.size
      replace bw := bw.trans (hb.mono bw.size)
      clear hb
      refine (cmpR (a := [0]) (b := []) (n2 := 0) (n := 1) (some ⟨v16.heap.size, 0, none⟩) none 1 0 rfl rfl (lit_lt (by decide)) (lit_lt (by decide)) _ rl1 Reads.none_ cmp_0).mono ?_
      rintro en v17 ⟨rfl, hb⟩
      replace hT := hT.below hb hT.2
      replace rt := (rt.below hb).more hb.size
      replace rx := (rx.below hb).more hb.size
      replace r6 := (r6.below hb).more hb.size
      replace r7 := (r7.below hb).more hb.size
      replace rl1 := (rl1.below hb).more hb.size
      replace bw := bw.trans (hb.mono bw.size)
      clear hb
      go_wp2_with fail
      clear rl1
      obtain ⟨u2, hu2⟩ : ∃ V, V = v17.alloc Z2 := ⟨_, rfl⟩
      rw [← hu2]
      have rl2 : Reads u2 u2.heap.size 1 (some ⟨v17.heap.size, 0, none⟩) 41 (ints .u32 (List.replicate 41 0)) := by rw [hu2, World.size_alloc]; exact gB2.out v17
      have hb : Below v17.heap.size v17 u2 := by rw [hu2]; exact (Below.refl _ _).alloc (Nat.le_refl _) _
      clear hu2 hmk2
      replace hT := hT.below hb hT.2
      replace rt := (rt.below hb).more hb.size
      replace rx := (rx.below hb).more hb.size
      replace r6 := (r6.below hb).more hb.size
      replace r7 := (r7.below hb).more hb.size
      replace bw := bw.trans (hb.mono bw.size)
      clear hb
      refine (bitsR (a := List.replicate 41 0) (some ⟨v17.heap.size, 0, none⟩) 41 (by simp) (by intro x hx; rw [(List.mem_replicate.1 hx).2]; omega) _ rl2 bits_41).mono ?_
      rintro en v18 ⟨rfl, hb⟩
      replace hT := hT.below hb hT.2
      replace rt := (rt.below hb).more hb.size
      replace rx := (rx.below hb).more hb.size
      replace r6 := (r6.below hb).more hb.size
      replace r7 := (r7.below hb).more hb.size
      replace rl2 := (rl2.below hb).more hb.size
      replace bw := bw.trans (hb.mono bw.size)
      clear hb
      go_wp2_with fail
      clear rl2
      refine (lowR (a := []) (n := 0) none 0 rfl (lit_lt (by decide)) _ Reads.none_ hT low_nil).mono ?_
      rintro en v19 ⟨rfl, hb⟩
      replace hT := hT.below hb hT.2
      replace rt := (rt.below hb).more hb.size
      replace rx := (rx.below hb).more hb.size
      replace r6 := (r6.below hb).more hb.size
      replace r7 := (r7.below hb).more hb.size
      replace bw := bw.trans (hb.mono bw.size)
      clear hb
      go_wp2_with fail
      refine (alive_any _ hT).mono ?_
      rintro en v20 ⟨rfl, hb⟩
      replace hT := hT.below hb hT.2
      replace rt := (rt.below hb).more hb.size
      replace rx := (rx.below hb).more hb.size
      replace r6 := (r6.below hb).more hb.size
      replace r7 := (r7.below hb).more hb.size
      replace bw := bw.trans (hb.mono bw.size)
      clear hb
      clear hT
      obtain ⟨ad, rfl, hab, cA⟩ := at_ints gLl.out rx (show 39 < 40 by omega)
      rw [gL39.out] at cA
      obtain ⟨z, hz⟩ : ∃ z : Int, z = 2147483648 := ⟨_, rfl⟩
      rw [show ((2147483648 : Nat) : Int) = z by rw [hz]; rfl] at cA
      have yz : (z == 2147483648) = true := by rw [hz]; rfl
      rw [show ad.add 39 = ⟨ad.block, ad.off + 39, none⟩ by first | rfl | (unfold Addr.add; simp)] at cA
      clear rx hz gL39
      go_wp2_with fail
      refine (isR (a := []) (b := []) (n := 0) (n2 := 0) X6 none x6 0 rfl rfl _ r6 Reads.none_ (Q := true) (by omega) (by omega) rfl).mono ?_
      rintro en v21 ⟨rfl, hb⟩
      replace rt := (rt.below hb).more hb.size
      replace r6 := (r6.below hb).more hb.size
      replace r7 := (r7.below hb).more hb.size
      replace bw := bw.trans (hb.mono bw.size)
      clear hb
      clear r6
      go_wp2_with fail
      refine (isR (a := []) (b := []) (n := 0) (n2 := 0) X7 none x7 0 rfl rfl _ r7 Reads.none_ (Q := true) (by omega) (by omega) rfl).mono ?_
      rintro en v22 ⟨rfl, hb⟩
      replace rt := (rt.below hb).more hb.size
      replace r7 := (r7.below hb).more hb.size
      replace bw := bw.trans (hb.mono bw.size)
      clear hb
      go_wp2_with fail
      clear r7
      obtain ⟨u3, hu3⟩ : ∃ V, V = v22.alloc (.cells #[.int .u32 1, .int .u32 0] 45) := ⟨_, rfl⟩
      rw [← hu3]
      have rl3 : Reads u3 u3.heap.size 1 (some ⟨v22.heap.size, 0, none⟩) 2 (ints .u32 [1, 0]) := by rw [hu3, World.size_alloc]; exact lit_reads v22 [1, 0] rfl
      have hb : Below v22.heap.size v22 u3 := by rw [hu3]; exact (Below.refl _ _).alloc (Nat.le_refl _) _
      clear hu3
      replace rt := (rt.below hb).more hb.size
      replace bw := bw.trans (hb.mono bw.size)
      clear hb
      have hq := check_any (some ⟨v22.heap.size, 0, none⟩) 2 2 _ [1, 0] rfl _ rl3
      rw [e10may] at hq
      refine hq.mono ?_
      rintro en v23 ⟨rfl, rfl⟩
      clear hq
      go_wp2_with fail
      have hq := check_any none 0 0 0 [] rfl u3 Reads.none_
      rw [enilmay] at hq
      refine hq.mono ?_
      rintro en v24 ⟨rfl, rfl⟩
      clear hq
      go_wp2
      go_ret
      exact ⟨rfl, bw⟩
end Go.Proofs.YtaklmkjldmbleaaDoor
