/- Door: (*dyad.sum).add -/
import Derived.Test.YtdmjdpaehnhdoaaDoorDAC
import Derived.ScopeJumps
import Derived.Deep.RegionHeld3
namespace Go.Proofs.YtdmjdpaehnhdoaaDoor
open Go.ChangeShapes Go.WideShapes Go.ChangeAt Go.RowKit
set_option linter.unusedSimpArgs false
set_option linter.unusedVariables false
def AddP (g : Nat) (sn : Bool) (e : Int) (V : Nat) (w : World) (en : Ending) (w' : World) : Prop := en = .returned (.tuple #[]) ∧ ∃ N : List Nat, Blk w' g 128 (sumC sn e N) ∧ N.length = 74 ∧ (∀ x ∈ N, x < 4294967296) ∧ val 4294967296 N = V ∧ Below g w w'
set_option maxRecDepth 100000 in
set_option maxHeartbeats 8000000 in
theorem addl_any (g : Nat) (sn : Bool) (e : Int) (a b : List Nat) (hn : a.length = 74) (hn2 : b.length = 74) (ha : ∀ x ∈ a, x < 4294967296) (hb : ∀ x ∈ b, x < 4294967296) (hs : val 4294967296 a + val 4294967296 b < 4294967296 ^ 74) (w : World) (k : Blk w g 128 (sumC sn e a)) :
    Calls Tryd.prog 78 #[.pointer (some ⟨g, 0, none⟩), .bool sn, .agg (ints .u32 b).toArray] w (AddP g sn e (val 4294967296 a + val 4294967296 b) w) := by
  have pa := pre_all 4294967296 a 74 (by omega)
  have pb := pre_all 4294967296 b 74 (by omega)
  obtain ⟨V, hV⟩ : ∃ V, V = w.alloc (.cells (ints .u32 b).toArray 108) := ⟨_, rfl⟩
  have hB0 : Below g w V := by rw [hV]; exact (Below.refl _ _).alloc (Nat.le_of_lt k.lt) _
  have k0 : Blk V g 128 (sumC sn e a) := by rw [hV]; exact k.alloc _
  have kx0 : Blk V w.heap.size 108 (ints .u32 b).toArray := by rw [hV]; exact Blk.new w _ _
  have hgx : g < w.heap.size := k.lt
  have c0 : V.cell? ⟨g, 0, none⟩ = some (.bool sn) := by rw [k0.cell]; exact sum_neg sn e a
  have tb : (sn != sn) = false := by cases sn <;> rfl
  obtain ⟨X, hX⟩ : ∃ X, (ints .u32 b).toArray = X := ⟨_, rfl⟩
  have hXc : ∀ i, i < 74 → X[i]? = some (.int .u32 ((b.getD i 0 : Nat) : Int)) := fun i hi => by rw [← hX]; simp only [List.getElem?_toArray]; exact ints_at .u32 (by omega)
  rw [hX] at kx0 hV ⊢
  clear hX
  go_enter Tryd.func78, Tryd.ntmps78
  go_upto_region 1 with (fail)
  rw [← hV]
  clear hV k hn2
  go_wp2
  refine wp_scope_jumps 0 (fun _ _ => False) (fun _ _ => 0) rfl ?_ (fun _ _ h => h.elim)
  go_wp2
  clear c0
  go_loopw [6, 16] (fun cy i wr => ∃ (j q : Nat) (N : List Nat), j ≤ 74 ∧ i = .int .i64 (j : Int) ∧ cy = .int .u32 (q : Int) ∧ q ≤ 1 ∧ Hid (N.length = 74) ∧ Hid (∀ x ∈ N, x < 4294967296) ∧ Hid (∀ i, j ≤ i → N.getD i 0 = a.getD i 0) ∧ Hid (pre 4294967296 N j + 4294967296 ^ j * q = pre 4294967296 a j + pre 4294967296 b j) ∧ Blk wr g 128 (sumC sn e N) ∧ Blk wr w.heap.size 108 X ∧ Below g w wr) (fun _ i _ => 74 - (intOf i).toNat)
  case atStart => exact ⟨0, 0, a, Nat.zero_le _, rfl, rfl, by omega, Lib.hid hn, Lib.hid ha, Lib.hid (fun i _ => rfl), Lib.hid rfl, k0, kx0, hB0⟩
  case round =>
    clear hB0 k0 kx0
    obtain ⟨j, q, N, hj, rfl, rfl, hq, hNl, hNb, hNa, hv, hK, hKx, hB⟩ := hrel
    by_cases hlt : j < 74
    · have xa := getD_lt (B := 4294967296) (by omega) ha j
      have xb := getD_lt (B := 4294967296) (by omega) hb j
      have va := pre_succ 4294967296 a j
      have vb := pre_succ 4294967296 b j
      have zc : wr.cell? ⟨g, 3 + j, none⟩ = some (.int .u32 ((a.getD j 0 : Nat) : Int)) := by rw [hK.cell, sum_at sn e (by rw [hNl.out]; exact hlt), hNa.out j (Nat.le_refl _)]
      have zy : wr.cell? ⟨w.heap.size, j, none⟩ = some (.int .u32 ((b.getD j 0 : Nat) : Int)) := by rw [hKx.cell, hXc j hlt]
      have zf := hK.frozen (3 + j)
      have zl := hK.lt
      obtain ⟨x, hx⟩ : ∃ x, a.getD j 0 = x := ⟨_, rfl⟩
      obtain ⟨y, hy⟩ : ∃ y, b.getD j 0 = y := ⟨_, rfl⟩
      rw [hx] at va xa zc
      rw [hy] at vb xb zy
      obtain ⟨d, hd⟩ : ∃ d, (x + y + q) % 4294967296 = d := ⟨_, rfl⟩
      obtain ⟨r, hr⟩ : ∃ r, (x + y + q) / 4294967296 = r := ⟨_, rfl⟩
      have hadd := fun w => add32 x y q xa xb hq w
      have hst := plusW (a := x) (b := y) hv.out
      rw [hd, hr] at hst
      simp only [hd, hr] at hadd
      have hr1 : r ≤ 1 := by omega
      have hdl : d < 4294967296 := by omega
      have hv' : Hid (pre 4294967296 (N.set j d) (j + 1) + 4294967296 ^ (j + 1) * r = pre 4294967296 a (j + 1) + pre 4294967296 b (j + 1)) := Lib.hid (by
        rw [va, vb, pre_set_at (by rw [hNl.out]; exact hlt)]
        omega)
      have hNb' : Hid (∀ z ∈ N.set j d, z < 4294967296) := Lib.hid (by
        intro z hz
        rcases List.mem_or_eq_of_mem_set hz with h | h
        · exact hNb.out z h
        · omega)
      have hNl' : Hid ((N.set j d).length = 74) := Lib.hid (by rw [List.length_set]; exact hNl.out)
      have hNa' : Hid (∀ i, j + 1 ≤ i → (N.set j d).getD i 0 = a.getD i 0) := Lib.hid (fun i hi => by
        rw [List.getD_eq_getElem?_getD, List.getElem?_set, if_neg (by omega), ← List.getD_eq_getElem?_getD]
        exact hNa.out i (by omega))
      have hK' := hK.set_ (3 + j) (.int .u32 (d : Int))
      rw [sum_set] at hK'
      have hKx' := hKx.far (p := ⟨g, 3 + j, none⟩) (by show w.heap.size ≠ g; omega) (.int .u32 (d : Int))
      have hB' := hB.setCell (p := ⟨g, 3 + j, none⟩) (Nat.le_refl _) (.int .u32 (d : Int))
      have zyb : (wr.setCell ⟨g, 3 + j, none⟩ (.int .u32 (d : Int))).cell? ⟨w.heap.size, j, none⟩ = some (.int .u32 (y : Int)) := by rw [hKx'.cell, hXc j hlt, hy]
      have i1 : (0 : Int) ≤ j := by omega
      have i2 : (j : Int) < 74 := by omega
      clear hx hy va vb hv hNl hNb hNa pa pb hd hr ha hb hK hKx hB hst hs hn hXc
      go_wp2_with fail
      refine wp_region_noPanic ?_
      refine wp_region_held_drew (S := fun w' => w'.cell? ⟨w.heap.size, j, none⟩ = some (.int .u32 (y : Int))) (by kernel_rfl) (zy) (fun hHeld => ?_)
      refine tkY 0 (h := ?_)
      (try simp only [Act.put, lsA, lsZ, lsS])
      refine tkY 1 (h := ?_)
      (try simp only [Act.put, lsA, lsZ, lsS])
      refine tkY 2 (h := ?_)
      (try simp only [Act.put, lsA, lsZ, lsS])
      refine tkY 3 (h := ?_)
      (try simp only [Act.put, lsA, lsZ, lsS])
      refine tkY 4 (h := ?_)
      (try simp only [Act.put, lsA, lsZ, lsS])
      refine tkY 5 (h := ?_)
      (try simp only [Act.put, lsA, lsZ, lsS])
      refine tkY 6 (h := ?_)
      (try simp only [Act.put, lsA, lsZ, lsS])
      refine tkY 8 (h := ?_)
      (try simp only [Act.put, lsA, lsZ, lsS])
      refine tkY 9 (h := ?_)
      (try simp only [Act.put, lsA, lsZ, lsS])
      refine tkY 10 (h := ?_)
      (try simp only [Act.put, lsA, lsZ, lsS])
      refine tkY 11 (h := ?_)
      (try simp only [Act.put, lsA, lsZ, lsS])
      refine tkY 16 (h := ?_)
      (try simp only [Act.put, lsA, lsZ, lsS])
      refine tkY 17 (h := ?_)
      (try simp only [Act.put, lsA, lsZ, lsS])
      refine tkR 7 (h := fun K hK => ?_)
      go_simp
      refine hK.out _ _ (zy) (fun hHeld => ?_)
      clear hK K
      (try simp only [Act.put, lsA, lsZ, lsS])
      refine tkR 12 (h := fun K hK => ?_)
      go_simp
      with_reducible refine (hadd _).mono ?_
      rintro e w' ⟨rfl, rfl⟩
      refine hK.out _ _ (zy) (fun hHeld => ?_)
      clear hK K
      (try simp only [Act.put, lsA, lsZ, lsS])
      refine tkY 13 (h := ?_)
      (try simp only [Act.put, lsA, lsZ, lsS])
      refine tkY 14 (h := ?_)
      (try simp only [Act.put, lsA, lsZ, lsS])
      refine tkY 15 (h := ?_)
      (try simp only [Act.put, lsA, lsZ, lsS])
      refine tkY 18 (h := ?_)
      (try simp only [Act.put, lsA, lsZ, lsS])
      refine tkR 19 (h := fun K hK => ?_)
      go_simp
      refine hK.out _ _ (zyb) (fun hHeld => ?_)
      clear hK K
      (try simp only [Act.put, lsA, lsZ, lsS])
      refine tkY 20 (h := ?_)
      (try simp only [Act.put, lsA, lsZ, lsS])
      refine wpAnyH_done (by kernel_rfl) ?_ _
      refine NoPanic.normal ?_
      go_wp2
      go_roundw
      case rel => exact ⟨j + 1, r, N.set j d, by omega, by go_num, rfl, hr1, hNl', hNb', hNa', hv', hK'.drew, hKx'.drew, hB'.drew⟩
      case measure => simp [intOf] <;> omega
    · obtain rfl : j = 74 := by omega
      have hv2 := hv.out
      have pN := pre_all 4294967296 N 74 (by rw [hNl.out]; exact Nat.le_refl _)
      rw [pa, pb, pN] at hv2
      have hVN := val_lt hNb.out
      rw [hNl.out] at hVN
      have q0 : q = 0 := by
        rcases Nat.eq_zero_or_pos q with h | h
        · exact h
        · obtain rfl : q = 1 := by omega
          omega
      subst q0
      have gl := hNl.out
      have gb := hNb.out
      have hv3 : val 4294967296 N = val 4294967296 a + val 4294967296 b := by omega
      clear hNl hNb hNa hv hv2 hVN pN pa pb ha hb hs hn hXc hKx
      go_wp2
      (try simp only [Exit.inBlock, Exit.then])
      refine bodyPost_ret (results_none rfl _ _ _) rfl ?_
      exact ⟨rfl, N, hK, gl, gb, hv3, hB⟩
end Go.Proofs.YtdmjdpaehnhdoaaDoor
