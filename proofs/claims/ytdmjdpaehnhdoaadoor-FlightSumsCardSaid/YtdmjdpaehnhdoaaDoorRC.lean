/- Door: the reference's dyads: Formed -/
import Derived.Test.YtdmjdpaehnhdoaaDoorRB
import Derived.Test.YtdmjdpaehnhdoaaDoorDI
namespace Go.Proofs.YtdmjdpaehnhdoaaDoor
open Go.ChangeShapes Go.WideShapes Go.ChangeAt Go.RowKit
set_option linter.unusedSimpArgs false
set_option linter.unusedVariables false
open Go.Shelf
set_option maxRecDepth 100000
/-- What Formed answers. -/
def RFrm (R : Option Dy) (w : World) (en : Ending) (w' : World) : Prop := Below w.heap.size w w' ∧ ((R = none ∧ en = .returned (.tuple #[.agg #[.bool false, .slice none 0 0, .int .i64 0], .int .i64 10])) ∨ (∃ d, R = some d ∧ ∃ X c, en = .returned (.tuple #[.agg #[.bool d.neg, .slice X d.ls.length c, .int .i64 d.ex], .int .i64 0]) ∧ RdD w' w'.heap.size d.neg X d.ls.length c d.ex d))
theorem drop_bits {N j : Nat} (h0 : ∀ i, i < j → (dig 2 N).getD i 0 = 0) (hj : j ≤ (dig 2 N).length) : N = val 2 ((dig 2 N).drop j) * 2 ^ j := by
  have h1 := val_drop_split 2 (dig 2 N) j
  rw [val_dig (by decide), Nat.min_eq_left hj] at h1
  have h2 : val 2 ((dig 2 N).take j) = 0 := val_zero (fun x hx => by
    obtain ⟨i, hi, rfl⟩ := List.getElem_of_mem hx
    rw [List.getElem_take]
    have hi2 : i < j := by rw [List.length_take] at hi; omega
    have h3 := h0 i hi2
    rw [List.getD_eq_getElem?_getD, List.getElem?_eq_getElem (by omega)] at h3
    exact h3)
  rw [h2, Nat.zero_add] at h1
  rw [Nat.mul_comm]
  exact h1
theorem drop_mod {N j : Nat} (hj : j < (dig 2 N).length) : val 2 ((dig 2 N).drop j) % 2 = (dig 2 N).getD j 0 := by
  have h1 : (dig 2 N).drop j = (dig 2 N)[j] :: (dig 2 N).drop (j + 1) := List.drop_eq_getElem_cons hj
  rw [h1, val_cons, List.getD_eq_getElem?_getD, List.getElem?_eq_getElem hj]
  have h2 := dig_lt (B := 2) (by decide) N _ (List.getElem_mem hj)
  simp only [Option.getD_some]
  omega
/-- Where the 0 ahead are over. -/
theorem stop_form {s : Bool} {N K j k n : Nat} (h0 : ∀ i, i < j → (dig 2 N).getD i 0 = 0) (hn : j + n = (dig 2 N).length) (hk : k + j = K) (hstop : k = 0 ∨ n = 0 ∨ (dig 2 N).getD j 0 ≠ 0) (hK : K ≤ 1024) :
    (n = 0 → formE s N K = some zdy) ∧ (n ≠ 0 → formE s N K = (if mayd ⟨s, dig LB (val 2 ((dig 2 N).drop j)), (k : Int)⟩ = true then some ⟨s, dig LB (val 2 ((dig 2 N).drop j)), (k : Int)⟩ else none)) := by
  obtain ⟨M, hM⟩ : ∃ M, val 2 ((dig 2 N).drop j) = M := ⟨_, rfl⟩
  have hN := drop_bits h0 (by omega)
  rw [hM] at hN ⊢
  refine ⟨fun hn0 => ?_, fun hn0 => ?_⟩
  · have e : (dig 2 N).drop j = [] := List.drop_eq_nil_iff.2 (by omega)
    have e2 : M = 0 := by rw [← hM, e]; rfl
    have e3 : N = 0 := by rw [hN, e2, Nat.zero_mul]
    unfold formE
    rw [if_pos e3]
  · have hNz : N ≠ 0 := fun e => by
      rw [e, dig_zero] at hn
      simp at hn
      omega
    have hmod : k = 0 ∨ M % 2 = 1 := by
      rcases hstop with h | h | h
      · exact .inl h
      · exact absurd h hn0
      · have h1 := drop_mod (N := N) (j := j) (by omega)
        rw [hM] at h1
        exact .inr (by omega)
    have ht : tzk K N = j := tzk_uniq hN (by omega) (by omega)
    have hd : N / 2 ^ j = M := by
      rw [hN]
      exact Nat.mul_div_cancel _ (Nat.pow_pos (by decide))
    have hMz : M ≠ 0 := fun e => hNz (by rw [hN, e, Nat.zero_mul])
    have hk2 : K - j = k := by omega
    unfold formE
    rw [if_neg hNz, ht, hd, hk2]
    have hne : dig LB M ≠ [] := fun e => hMz (by rw [← val_dig (B := LB) (by decide) M, e]; rfl)
    by_cases h40 : 40 < (dig LB M).length
    · rw [if_pos h40, if_neg]
      intro h
      have := (mayd_parts h).1
      simp only at this
      omega
    · rw [if_neg h40, if_pos]
      refine mayd_of (by simp only; omega) (dig_canon (by decide) M) (by simp only; omega) (by simp only; omega) hne ?_
      rcases hmod with h | h
      · exact .inl (by simp only; omega)
      · right
        simp only
        rw [← val_mod2, val_dig (by decide)]
        exact h
theorem zd_cells {i : Nat} {z : Int} : (#[.bool false, .slice none 0 0, .int .i64 0] : Array Value)[i]? ≠ some (.int .u32 z) := by
  match i with
  | 0 => simp
  | 1 => simp
  | 2 => simp
  | i + 3 => simp
theorem reads_ne32 {w : World} {B n g : Nat} {T : TypeId} {cs : Array Value} {X : Option Addr} {b : List Nat} (h : Reads w B 1 X n (ints .u32 b)) (hk : Blk w g T cs) (hc : ∀ (i : Nat) (z : Int), cs[i]? ≠ some (.int .u32 z)) : n = 0 ∨ ∃ ad, X = some ad ∧ ad.block ≠ g := by
  rcases Nat.eq_zero_or_pos n with h0 | h0
  · exact .inl h0
  · obtain ⟨ad, u, e, _, hu, hl⟩ := h.at_ (k := 0) h0
    refine .inr ⟨ad, e, fun hb => ?_⟩
    obtain ⟨z, rfl⟩ : ∃ z, u = .int .u32 z := by
      obtain ⟨i, hi⟩ := List.getElem?_eq_some_iff.1 hu
      have hm := List.getElem_mem i
      rw [hi] at hm
      unfold ints at hm
      obtain ⟨z, _, hz⟩ := List.mem_map.1 hm
      exact ⟨_, hz.symm⟩
    obtain ⟨bl, off, spot⟩ := ad
    simp only at hb
    subst hb
    cases spot with
    | none =>
      have e2 : (⟨bl, off, none⟩ : Addr).add 0 = ⟨bl, off, none⟩ := by simp [Addr.add]
      rw [e2, hk.cell] at hl
      exact hc _ _ hl
    | some p =>
      unfold Blk at hk
      simp [Addr.add, World.cell?, hk] at hl
theorem far1 {w : World} {n g q : Nat} {X : Option Addr} {xs : List Value} {u : Value} (h : Reads w w.heap.size 1 X n xs) (hX : n = 0 ∨ ∃ ad, X = some ad ∧ ad.block ≠ g) : Reads (w.setCell ⟨g, q, none⟩ u) (w.setCell ⟨g, q, none⟩ u).heap.size 1 X n xs := by
  refine ⟨h.1, fun h0 => ?_⟩
  obtain ⟨ad, e, h1, h2⟩ := h.2 h0
  refine ⟨ad, e, by rw [World.size_setCell]; exact h1, fun j v hv => ?_⟩
  rcases hX with hX | ⟨ad2, e2, hne⟩
  · omega
  · rw [e] at e2
    injection e2 with e2
    subst e2
    rw [World.cell?_setCell_other _ _ _ _ (fun h => hne (by have h3 := congrArg Addr.block h; rw [block_of_add] at h3; exact h3.symm))]
    exact h2 j v hv
theorem far3 {w : World} {n g : Nat} {X : Option Addr} {xs : List Value} {u0 u1 u2 : Value} (h : Reads w w.heap.size 1 X n xs) (hX : n = 0 ∨ ∃ ad, X = some ad ∧ ad.block ≠ g) : Reads (((w.setCell ⟨g, 0, none⟩ u0).setCell ⟨g, 1, none⟩ u1).setCell ⟨g, 2, none⟩ u2) (((w.setCell ⟨g, 0, none⟩ u0).setCell ⟨g, 1, none⟩ u1).setCell ⟨g, 2, none⟩ u2).heap.size 1 X n xs := far1 (far1 (far1 h hX) hX) hX
set_option maxHeartbeats 16000000 in
theorem rformed_any (s : Bool) (X : Option Addr) (n c K N : Nat) (a : List Nat) (hn : a.length = n) (hm : n ≤ 10000) (hnc : n ≤ c) (ha : ∀ x ∈ a, x < 2) (hN : val 2 a = N) (hK : K ≤ 1024) (w : World) (r1 : Reads w w.heap.size 1 X n (ints .u8 a)) : Calls Tryd.prog 88 #[.agg #[.bool s, .slice X n c], .int .i64 (K : Int)] w (RFrm (formE s N K) w) := by
  obtain ⟨m, hm0⟩ : ∃ m, (dig 2 N).length = m := ⟨_, rfl⟩
  have hdt := dig_take (by decide : 2 ≤ 2) ha hN hm0
  obtain ⟨V, hV⟩ : ∃ V, V = (w.alloc (.cells #[.bool s, .slice X n c] 118)).alloc (.cells #[.bool false, .slice none 0 0, .int .i64 0] 25) := ⟨_, rfl⟩
  have kx : Blk V w.heap.size 118 #[.bool s, .slice X n c] := by rw [hV]; exact (Blk.new w _ _).alloc _
  have kr : Blk V (w.heap.size + 1) 25 #[.bool false, .slice none 0 0, .int .i64 0] := by
    have h := Blk.new (w.alloc (.cells #[.bool s, .slice X n c] 118)) 25 #[.bool false, .slice none 0 0, .int .i64 0]
    rw [World.size_alloc] at h
    rw [hV]; exact h
  have hB : Below w.heap.size w V := by rw [hV]; exact ((Below.refl _ w).alloc (Nat.le_refl _) _).alloc (by simp) _
  have sz : V.heap.size = w.heap.size + 1 + 1 := by rw [hV]; simp
  have rV := (r1.below hB).more hB.size
  have hc := rcut_any X n c V.heap.size a hn (by omega) hnc ha V rV m (by rw [hN]; exact hm0)
  have gR0 : Hid (Reads V V.heap.size 1 X m (ints .u8 ((dig 2 N).drop 0))) := Lib.hid (by rw [List.drop_zero, ← hdt.1]; exact reads_take hn rV (by rw [← hn]; exact hdt.2))
  have hmn : m ≤ n := by rw [← hn]; exact hdt.2
  have SS : ∀ w', Below V.heap.size V w' → (w'.cell? ⟨w.heap.size, 0, none⟩ = some (.bool s)) := by
    intro w' hw
    rw [(kx.below hw kx.lt).cell]; rfl
  have x0 : V.cell? ⟨w.heap.size, 0, none⟩ = some (.bool s) := by rw [kx.cell]; rfl
  have x1 : V.cell? ⟨w.heap.size, 1, none⟩ = some (.slice X n c) := by rw [kx.cell]; rfl
  have gk4 := Lib.hid kr
  have gm := Lib.hid hm0
  have gB := Lib.hid hB
  have gmx : Hid (m ≤ 10000) := Lib.hid (by omega)
  have hmc : m ≤ c := by omega
  clear kx kr hm0 hB r1 rV ha hn hN hdt hmn hnc hm sz
  go_enter Tryd.func88, Tryd.ntmps88
  go_upto_region 1 with (fail)
  rw [← hV]
  clear hV
  go_wp2_with fail
  refine hc.mono ?_
  rintro en w5 ⟨rfl, rfl⟩
  clear hc x1
  go_wp2
  go_loopw [1, 6] (fun t1 t6 wr => ∃ (j n' c' k' : Nat) (B : Option Addr), j + n' = m ∧ n' ≤ c' ∧ k' + j = K ∧ t1 = .int .i64 (k' : Int) ∧ t6 = .slice B n' c' ∧ Hid (Reads V V.heap.size 1 B n' (ints .u8 ((dig 2 N).drop j))) ∧ Hid (∀ i, i < j → (dig 2 N).getD i 0 = 0) ∧ V = wr) (fun t _ _ => (intOf t).toNat)
  case atStart => exact ⟨0, m, c, K, X, by omega, hmc, by omega, rfl, rfl, gR0, Lib.hid (fun i h => absurd h (by omega)), rfl⟩
  case round =>
    obtain ⟨j, n', c', k', B, hjn, hnc', hkj, rfl, rfl, gR, gz, rfl⟩ := hrel
    clear gR0 hmc
    by_cases h1 : k' = 0
    · have hstop : k' = 0 ∨ n' = 0 ∨ (dig 2 N).getD j 0 ≠ 0 := .inl h1
      have i1 : ¬ (0 : Int) < (k' : Int) := by omega
      have i1' : decide ((0 : Int) < (k' : Int)) = false := decide_eq_false i1
      have h2 : True := trivial
      clear h1
      go_upto_region 5 with (fail)
      clear i1 i1'
      have gst := Lib.hid (stop_form (s := s) gz.out (by rw [gm.out]; exact hjn) hkj hstop hK)
      clear hstop
      by_cases hn0 : n' = 0
      · have e1 := gst.out.1 hn0
        replace e1 := Lib.hid e1
        subst hn0
        have kz : Blk (((V.setCell ⟨w.heap.size + 1, 0, none⟩ (.bool false)).setCell ⟨w.heap.size + 1, 1, none⟩ (.slice none 0 0)).setCell ⟨w.heap.size + 1, 2, none⟩ (.int .i64 0)) (w.heap.size + 1) 25 #[.bool false, .slice none 0 0, .int .i64 0] := by have h := ((gk4.out.set_ 0 (.bool false)).set_ 1 (.slice none 0 0)).set_ 2 (.int .i64 0); simpa using h
        have hBz := ((gB.out.setCell (p := ⟨w.heap.size + 1, 0, none⟩) (by show w.heap.size ≤ w.heap.size + 1; omega) (.bool false)).setCell (p := ⟨w.heap.size + 1, 1, none⟩) (by show w.heap.size ≤ w.heap.size + 1; omega) (.slice none 0 0)).setCell (p := ⟨w.heap.size + 1, 2, none⟩) (by show w.heap.size ≤ w.heap.size + 1; omega) (.int .i64 0)
        have r0 := gk4.out.cell 0
        have r1 := gk4.out.cell 1
        have r2 := gk4.out.cell 2
        simp only [lgA, lgZ, lgS] at r0 r1 r2
        have f0 := gk4.out.frozen 0
        have f1 := gk4.out.frozen 1
        have f2 := gk4.out.frozen 2
        go_wp2
        refine bodyPost_ret (ret_dyad rfl _ _ (w.heap.size + 1) #[.bool false, .slice none 0 0, .int .i64 0] (.int .i64 0) rfl kz (by kernel_rfl) rfl) rfl ?_
        exact ⟨hBz, .inr ⟨zdy, e1.out, none, 0, rfl, rfl, rfl, rfl, Nat.le_refl _, Reads.none_⟩⟩
      · have i3 : ¬ ((n' : Int) = 0) := by omega
        have i4 : ((n' : Int) == 0) = false := beq_eq_false_iff_ne.2 i3
        have e1 := Lib.hid (gst.out.2 hn0)
        clear gst
        obtain ⟨M, hM⟩ : ∃ M, val 2 ((dig 2 N).drop j) = M := ⟨_, rfl⟩
        rw [hM] at e1
        obtain ⟨m2, hm2⟩ : ∃ m2, (dig LB M).length = m2 := ⟨_, rfl⟩
        have hlm : ∀ w', Below V.heap.size V w' → Calls Tryd.prog 109 #[.slice B n' c'] w' (LRead w' m2 M) := fun w' h => by
          have hq := limbs_any B n' c' ((dig 2 N).drop j) (by rw [List.length_drop, gm.out]; omega) (by have := gmx.out; omega) hnc' (fun x hx => dig_lt (by decide) N x (List.mem_of_mem_drop hx)) m2 (by rw [hM]; exact hm2) w' ((gR.out.below h).more h.size)
          rw [hM] at hq
          exact hq
        have gm2 := Lib.hid hm2
        have gM := Lib.hid hM
        clear hM hm2
        obtain ⟨Q, hQ⟩ : ∃ Q, mayd ⟨s, dig LB M, (k' : Int)⟩ = Q := ⟨_, rfl⟩
        rw [hQ] at e1
        have gQ := Lib.hid hQ
        clear hQ
        have b0 := SS V (Below.refl _ _)
        clear hn0 hnc' hjn hkj
        go_upto_region 7 with (fail)
        go_cut [7] (fun s7 W3 => ∃ (G : Nat) (A2 : Option Addr) (c2 : Nat), s7 = .pointer (some ⟨G, 0, none⟩) ∧ Blk W3 G 25 #[.bool s, .slice A2 m2 c2, .int .i64 (k' : Int)] ∧ m2 ≤ c2 ∧ Reads W3 W3.heap.size 1 A2 m2 (ints .u32 (dig LB M)) ∧ Below V.heap.size V W3)
        case first =>
          refine wp_region_noPanic ?_
          refine wp_region_held_drew (S := fun w' => w'.cell? ⟨w.heap.size, 0, none⟩ = some (.bool s)) (by kernel_rfl) (SS _ bls) (fun hHeld => ?_)
          refine tkY 0 (h := ?_)
          (try simp only [Act.put, lsA, lsZ, lsS])
          refine tkY 1 (h := ?_)
          (try simp only [Act.put, lsA, lsZ, lsS])
          refine tkY 2 (h := ?_)
          (try simp only [Act.put, lsA, lsZ, lsS])
          refine tkY 4 (h := ?_)
          (try simp only [Act.put, lsA, lsZ, lsS])
          refine wpAnyH_ready (rs := [3, 6]) (by kernel_rfl) (by simp) ?_
          refine AllReadyH.cons rfl (fun K hK => ?_) (AllReadyH.cons rfl (fun K hK => ?_) AllReadyH.nil)
          · go_simp
            with_reducible refine (hlm _ bls).mono ?_
            rintro en v1 ⟨A2, c2, rfl, hc2, hr2, hv1⟩
            have hv12 : Below V.heap.size V v1 := Below.trans bls (hv1.mono (by first | exact Nat.le_refl _ | (simp only [World.size_alloc, World.size_drew, World.size_setCell]; omega) | omega))
            have sv1 : V.heap.size ≤ v1.heap.size := hv12.size
            have gr2 := Lib.hid hr2
            have gc2 := Lib.hid hc2
            clear hr2 hc2
            refine hK.out _ _ (SS _ bls) (fun hHeld => ?_)
            clear hK K
            (try simp only [Act.put, lsA, lsZ, lsS])
            refine tkY 5 (h := ?_)
            (try simp only [Act.put, lsA, lsZ, lsS])
            refine tkR 6 (h := fun K hK => ?_)
            go_simp
            refine hK.out _ _ (SS _ bls) (fun hHeld => ?_)
            clear hK K
            (try simp only [Act.put, lsA, lsZ, lsS])
            refine tkR 7 (h := fun K hK => ?_)
            go_simp
            refine hK.out _ _ (SS _ bls) (fun hHeld => ?_)
            clear hK K
            (try simp only [Act.put, lsA, lsZ, lsS])
            refine wpAnyH_done (by kernel_rfl) ?_ _
            refine NoPanic.normal ?_
            (try go_wp2_with fail)
            go_meet
            exact ⟨v1.heap.size, A2, c2, rfl, Blk.new _ _ _, gc2.out, (gr2.out.below ((Below.refl _ _).alloc (Nat.le_refl _) _)).more ((Below.refl _ _).alloc (Nat.le_refl _) _).size, bls⟩
          · go_simp
            refine hK.out _ _ (SS _ bls) (fun hHeld => ?_)
            clear hK K
            (try simp only [Act.put, lsA, lsZ, lsS])
            refine tkR 3 (h := fun K hK => ?_)
            go_simp
            with_reducible refine (hlm _ bls).mono ?_
            rintro en v1 ⟨A2, c2, rfl, hc2, hr2, hv1⟩
            have hv12 : Below V.heap.size V v1 := Below.trans bls (hv1.mono (by first | exact Nat.le_refl _ | (simp only [World.size_alloc, World.size_drew, World.size_setCell]; omega) | omega))
            have sv1 : V.heap.size ≤ v1.heap.size := hv12.size
            have gr2 := Lib.hid hr2
            have gc2 := Lib.hid hc2
            clear hr2 hc2
            have k6a := (Blk.new V 25 #[.bool false, .slice none 0 0, .int .i64 0]).drew
            have k6 := k6a.below hv1 k6a.lt
            clear k6a
            have z0 := k6.cell 0
            have z1 := k6.cell 1
            have z2 := k6.cell 2
            simp only [lgA, lgZ, lgS] at z0 z1 z2
            have f0 := k6.frozen 0
            have f1 := k6.frozen 1
            have f2 := k6.frozen 2
            have gk6 := Lib.hid k6
            clear k6
            refine hK.out _ _ (SS _ bls) (fun hHeld => ?_)
            clear hK K
            (try simp only [Act.put, lsA, lsZ, lsS])
            refine tkY 5 (h := ?_)
            (try simp only [Act.put, lsA, lsZ, lsS])
            refine tkR 7 (h := fun K hK => ?_)
            go_simp
            refine hK.out _ _ (SS _ bls) (fun hHeld => ?_)
            clear hK K
            (try simp only [Act.put, lsA, lsZ, lsS])
            refine wpAnyH_done (by kernel_rfl) ?_ _
            refine NoPanic.normal ?_
            (try go_wp2_with fail)
            go_meet
            have h9 := ((gk6.out.set_ 0 (.bool s)).set_ 1 (.slice A2 m2 c2)).set_ 2 (.int .i64 (k' : Int))
            exact ⟨V.heap.size, A2, c2, rfl, by simpa using h9, gc2.out, far3 gr2.out (reads_ne32 gr2.out gk6.out (fun i z => zd_cells)), bls⟩
        case rest =>
        obtain ⟨G, A2, c2, rfl, k9, hc2, hr2, hBV3⟩ := hcut
        obtain ⟨W3, hW3⟩ : ∃ W, W = wc := ⟨_, rfl⟩
        subst hW3
        have gc2 := Lib.hid hc2
        have gr3 := Lib.hid hr2
        clear hc2 hr2
        have k4 := gk4.out.below hBV3 gk4.out.lt
        have hB3 := gB.out.trans (hBV3.mono gB.out.size)
        have hr3 := gr3
        have hmy := rdmay_any s A2 m2 c2 (k' : Int) ⟨s, dig LB M, (k' : Int)⟩ Q gQ.out W3 ⟨rfl, rfl, gm2.out, gc2.out, hr3.out⟩
        have q0 := k9.cell 0
        have q1 := k9.cell 1
        have q2 := k9.cell 2
        simp only [lgA, lgZ, lgS] at q0 q1 q2
        have gk9 := Lib.hid k9
        have gk4' := Lib.hid k4
        have gB3 := Lib.hid hB3
        clear k9 k4 hB3 b0
        go_wp2_with fail
        refine hmy.mono ?_
        rintro en v5 ⟨rfl, hb5⟩
        clear q0 q1 q2 hmy
        have k9 := gk9.out.below hb5 gk9.out.lt
        have k4 := gk4'.out.below hb5 gk4'.out.lt
        have hB5 := gB3.out.trans (hb5.mono gB3.out.size)
        cases Q with
        | false =>
          replace e1 := Lib.hid (e1.out.trans (if_neg (by decide)))
          have kz : Blk (((v5.setCell ⟨w.heap.size + 1, 0, none⟩ (.bool false)).setCell ⟨w.heap.size + 1, 1, none⟩ (.slice none 0 0)).setCell ⟨w.heap.size + 1, 2, none⟩ (.int .i64 0)) (w.heap.size + 1) 25 #[.bool false, .slice none 0 0, .int .i64 0] := by have h := ((k4.set_ 0 (.bool false)).set_ 1 (.slice none 0 0)).set_ 2 (.int .i64 0); simpa using h
          have hBz := ((hB5.setCell (p := ⟨w.heap.size + 1, 0, none⟩) (by show w.heap.size ≤ w.heap.size + 1; omega) (.bool false)).setCell (p := ⟨w.heap.size + 1, 1, none⟩) (by show w.heap.size ≤ w.heap.size + 1; omega) (.slice none 0 0)).setCell (p := ⟨w.heap.size + 1, 2, none⟩) (by show w.heap.size ≤ w.heap.size + 1; omega) (.int .i64 0)
          have r0 := k4.cell 0
          have r1 := k4.cell 1
          have r2 := k4.cell 2
          simp only [lgA, lgZ, lgS] at r0 r1 r2
          have f0 := k4.frozen 0
          have f1 := k4.frozen 1
          have f2 := k4.frozen 2
          go_wp2
          refine bodyPost_ret (ret_dyad rfl _ _ (w.heap.size + 1) #[.bool false, .slice none 0 0, .int .i64 0] (.int .i64 10) rfl kz (by kernel_rfl) rfl) rfl ?_
          exact ⟨hBz, .inl ⟨e1.out, rfl⟩⟩
        | true =>
          replace e1 := Lib.hid (e1.out.trans (if_pos rfl))
          have q0 := k9.cell 0
          have q1 := k9.cell 1
          have q2 := k9.cell 2
          simp only [lgA, lgZ, lgS] at q0 q1 q2
          have hrz := Lib.hid ((hr3.out.below hb5).more hb5.size)
          have gnz := reads_ne32 hrz.out k4 (fun i z => zd_cells)
          replace gnz := Lib.hid gnz
          have kz : Blk (((v5.setCell ⟨w.heap.size + 1, 0, none⟩ (.bool s)).setCell ⟨w.heap.size + 1, 1, none⟩ (.slice A2 m2 c2)).setCell ⟨w.heap.size + 1, 2, none⟩ (.int .i64 (k' : Int))) (w.heap.size + 1) 25 #[.bool s, .slice A2 m2 c2, .int .i64 (k' : Int)] := by have h := ((k4.set_ 0 (.bool s)).set_ 1 (.slice A2 m2 c2)).set_ 2 (.int .i64 (k' : Int)); simpa using h
          have hBz := ((hB5.setCell (p := ⟨w.heap.size + 1, 0, none⟩) (by show w.heap.size ≤ w.heap.size + 1; omega) (.bool s)).setCell (p := ⟨w.heap.size + 1, 1, none⟩) (by show w.heap.size ≤ w.heap.size + 1; omega) (.slice A2 m2 c2)).setCell (p := ⟨w.heap.size + 1, 2, none⟩) (by show w.heap.size ≤ w.heap.size + 1; omega) (.int .i64 (k' : Int))
          have r0 := k4.cell 0
          have r1 := k4.cell 1
          have r2 := k4.cell 2
          simp only [lgA, lgZ, lgS] at r0 r1 r2
          have f0 := k4.frozen 0
          have f1 := k4.frozen 1
          have f2 := k4.frozen 2
          go_wp2
          refine bodyPost_ret (ret_dyad rfl _ _ (w.heap.size + 1) #[.bool s, .slice A2 m2 c2, .int .i64 (k' : Int)] (.int .i64 0) rfl kz (by kernel_rfl) rfl) rfl ?_
          exact ⟨hBz, .inr ⟨_, e1.out, A2, c2, by rw [gm2.out], rfl, rfl, rfl, by rw [gm2.out]; exact gc2.out, by rw [gm2.out]; exact far3 hrz.out gnz.out⟩⟩
    · have i1 : (0 : Int) < (k' : Int) := by omega
      by_cases h2 : n' = 0
      · have hstop : k' = 0 ∨ n' = 0 ∨ (dig 2 N).getD j 0 ≠ 0 := .inr (.inl h2)
        have i2 : ¬ (0 : Int) < (n' : Int) := by omega
        have i2' : decide ((0 : Int) < (n' : Int)) = false := decide_eq_false i2
        go_upto_region 5 with (fail)
        clear i1 i2 i2' h1
        have gst := Lib.hid (stop_form (s := s) gz.out (by rw [gm.out]; exact hjn) hkj hstop hK)
        clear hstop
        have hn0 := h2
        have e1 := gst.out.1 hn0
        replace e1 := Lib.hid e1
        subst hn0
        have kz : Blk (((V.setCell ⟨w.heap.size + 1, 0, none⟩ (.bool false)).setCell ⟨w.heap.size + 1, 1, none⟩ (.slice none 0 0)).setCell ⟨w.heap.size + 1, 2, none⟩ (.int .i64 0)) (w.heap.size + 1) 25 #[.bool false, .slice none 0 0, .int .i64 0] := by have h := ((gk4.out.set_ 0 (.bool false)).set_ 1 (.slice none 0 0)).set_ 2 (.int .i64 0); simpa using h
        have hBz := ((gB.out.setCell (p := ⟨w.heap.size + 1, 0, none⟩) (by show w.heap.size ≤ w.heap.size + 1; omega) (.bool false)).setCell (p := ⟨w.heap.size + 1, 1, none⟩) (by show w.heap.size ≤ w.heap.size + 1; omega) (.slice none 0 0)).setCell (p := ⟨w.heap.size + 1, 2, none⟩) (by show w.heap.size ≤ w.heap.size + 1; omega) (.int .i64 0)
        have r0 := gk4.out.cell 0
        have r1 := gk4.out.cell 1
        have r2 := gk4.out.cell 2
        simp only [lgA, lgZ, lgS] at r0 r1 r2
        have f0 := gk4.out.frozen 0
        have f1 := gk4.out.frozen 1
        have f2 := gk4.out.frozen 2
        go_wp2
        refine bodyPost_ret (ret_dyad rfl _ _ (w.heap.size + 1) #[.bool false, .slice none 0 0, .int .i64 0] (.int .i64 0) rfl kz (by kernel_rfl) rfl) rfl ?_
        exact ⟨hBz, .inr ⟨zdy, e1.out, none, 0, rfl, rfl, rfl, rfl, Nat.le_refl _, Reads.none_⟩⟩
      · have i2 : (0 : Int) < (n' : Int) := by omega
        obtain ⟨ad, rfl, had, hcell⟩ := at_ints (by rw [List.length_drop, gm.out]; omega) gR.out (k := 0) (by omega)
        rw [List.getD_eq_getElem?_getD, List.getElem?_drop, Nat.add_zero, ← List.getD_eq_getElem?_getD] at hcell
        have hcell0 : V.cell? ad = some (.int .u8 (((dig 2 N).getD j 0 : Nat) : Int)) := hcell
        obtain ⟨x, hx⟩ : ∃ x, (dig 2 N).getD j 0 = x := ⟨_, rfl⟩
        rw [hx] at hcell hcell0
        by_cases h3 : x = 0
        · obtain ⟨n1, rfl⟩ : ∃ n1, n' = n1 + 1 := ⟨n' - 1, by omega⟩
          obtain ⟨c1, rfl⟩ : ∃ c1, c' = c1 + 1 := ⟨c' - 1, by omega⟩
          obtain ⟨k1, rfl⟩ : ∃ k1, k' = k1 + 1 := ⟨k' - 1, by omega⟩
          subst h3
          have gcut := gR.out.cut (k := 1) (cap := c1 + 1) (by omega) (by omega)
          obtain ⟨B2, hB2⟩ : ∃ B2, (if c1 + 1 = 1 then some ad else (some ad).map (·.add (1 * 1))) = B2 := ⟨_, rfl⟩
          rw [hB2] at gcut
          have hB3 : (if c1 = 0 then some ad else some ⟨ad.block, ad.off + 1, none⟩) = B2 := by
            rw [← hB2]
            by_cases h : c1 = 0
            · rw [if_pos h, if_pos (by omega)]
            · rw [if_neg h, if_neg (by omega)]; rfl
          have gR' : Hid (Reads V V.heap.size 1 B2 n1 (ints .u8 ((dig 2 N).drop (j + 1)))) := Lib.hid (by
            have h := gcut
            rw [show n1 + 1 - 1 = n1 by omega] at h
            rw [← List.drop_drop]
            unfold ints at h ⊢
            rw [List.map_drop]
            exact h)
          have gz' : Hid (∀ i, i < j + 1 → (dig 2 N).getD i 0 = 0) := Lib.hid (fun i hi => by
            rcases Nat.lt_or_ge i j with h | h
            · exact gz.out i h
            · rw [show i = j by omega]; exact hx)
          have i5 : n1 ≤ c1 := by omega
          have i6 : (1 : Int) ≤ ((n1 + 1 : Nat) : Int) := by omega
          have gi : Hid (j + (n1 + 1) = m ∧ k1 + 1 + j = K) := Lib.hid ⟨hjn, hkj⟩
          have i7 : k1 ≤ 1024 := by omega
          have i8 : wrap64 (k1 : Int) = (k1 : Int) := by unfold wrap64; omega
          clear gcut hx hB2 hjn hkj h1 h2
          go_wp2
          go_roundw
          case rel => exact ⟨j + 1, n1, c1, k1, B2, by have := gi.out.1; omega, i5, by have := gi.out.2; omega, by go_num, rfl, gR', gz', by first | rfl | trivial⟩
          case measure => simp [intOf]
        · have hstop : k' = 0 ∨ n' = 0 ∨ (dig 2 N).getD j 0 ≠ 0 := .inr (.inr (by rw [hx]; exact h3))
          have i3 : ((x : Int) == 0) = false := beq_eq_false_iff_ne.2 (by omega)
          have i4 : ¬ x = 0 := h3
          go_upto_region 5 with (fail)
          clear i1 i2 i3 i4 hcell hcell0 h1 h3 hx had
          have gst := Lib.hid (stop_form (s := s) gz.out (by rw [gm.out]; exact hjn) hkj hstop hK)
          clear hstop
          have hn0 := h2
          have i3 : ¬ ((n' : Int) = 0) := by omega
          have i4 : ((n' : Int) == 0) = false := beq_eq_false_iff_ne.2 i3
          have e1 := Lib.hid (gst.out.2 hn0)
          clear gst
          obtain ⟨M, hM⟩ : ∃ M, val 2 ((dig 2 N).drop j) = M := ⟨_, rfl⟩
          rw [hM] at e1
          obtain ⟨m2, hm2⟩ : ∃ m2, (dig LB M).length = m2 := ⟨_, rfl⟩
          have hlm : ∀ w', Below V.heap.size V w' → Calls Tryd.prog 109 #[.slice (some ad) n' c'] w' (LRead w' m2 M) := fun w' h => by
            have hq := limbs_any (some ad) n' c' ((dig 2 N).drop j) (by rw [List.length_drop, gm.out]; omega) (by have := gmx.out; omega) hnc' (fun x hx => dig_lt (by decide) N x (List.mem_of_mem_drop hx)) m2 (by rw [hM]; exact hm2) w' ((gR.out.below h).more h.size)
            rw [hM] at hq
            exact hq
          have gm2 := Lib.hid hm2
          have gM := Lib.hid hM
          clear hM hm2
          obtain ⟨Q, hQ⟩ : ∃ Q, mayd ⟨s, dig LB M, (k' : Int)⟩ = Q := ⟨_, rfl⟩
          rw [hQ] at e1
          have gQ := Lib.hid hQ
          clear hQ
          have b0 := SS V (Below.refl _ _)
          clear hn0 hnc' hjn hkj
          go_upto_region 7 with (fail)
          go_cut [7] (fun s7 W3 => ∃ (G : Nat) (A2 : Option Addr) (c2 : Nat), s7 = .pointer (some ⟨G, 0, none⟩) ∧ Blk W3 G 25 #[.bool s, .slice A2 m2 c2, .int .i64 (k' : Int)] ∧ m2 ≤ c2 ∧ Reads W3 W3.heap.size 1 A2 m2 (ints .u32 (dig LB M)) ∧ Below V.heap.size V W3)
          case first =>
            refine wp_region_noPanic ?_
            refine wp_region_held_drew (S := fun w' => w'.cell? ⟨w.heap.size, 0, none⟩ = some (.bool s)) (by kernel_rfl) (SS _ bls) (fun hHeld => ?_)
            refine tkY 0 (h := ?_)
            (try simp only [Act.put, lsA, lsZ, lsS])
            refine tkY 1 (h := ?_)
            (try simp only [Act.put, lsA, lsZ, lsS])
            refine tkY 2 (h := ?_)
            (try simp only [Act.put, lsA, lsZ, lsS])
            refine tkY 4 (h := ?_)
            (try simp only [Act.put, lsA, lsZ, lsS])
            refine wpAnyH_ready (rs := [3, 6]) (by kernel_rfl) (by simp) ?_
            refine AllReadyH.cons rfl (fun K hK => ?_) (AllReadyH.cons rfl (fun K hK => ?_) AllReadyH.nil)
            · go_simp
              with_reducible refine (hlm _ bls).mono ?_
              rintro en v1 ⟨A2, c2, rfl, hc2, hr2, hv1⟩
              have hv12 : Below V.heap.size V v1 := Below.trans bls (hv1.mono (by first | exact Nat.le_refl _ | (simp only [World.size_alloc, World.size_drew, World.size_setCell]; omega) | omega))
              have sv1 : V.heap.size ≤ v1.heap.size := hv12.size
              have gr2 := Lib.hid hr2
              have gc2 := Lib.hid hc2
              clear hr2 hc2
              refine hK.out _ _ (SS _ bls) (fun hHeld => ?_)
              clear hK K
              (try simp only [Act.put, lsA, lsZ, lsS])
              refine tkY 5 (h := ?_)
              (try simp only [Act.put, lsA, lsZ, lsS])
              refine tkR 6 (h := fun K hK => ?_)
              go_simp
              refine hK.out _ _ (SS _ bls) (fun hHeld => ?_)
              clear hK K
              (try simp only [Act.put, lsA, lsZ, lsS])
              refine tkR 7 (h := fun K hK => ?_)
              go_simp
              refine hK.out _ _ (SS _ bls) (fun hHeld => ?_)
              clear hK K
              (try simp only [Act.put, lsA, lsZ, lsS])
              refine wpAnyH_done (by kernel_rfl) ?_ _
              refine NoPanic.normal ?_
              (try go_wp2_with fail)
              go_meet
              exact ⟨v1.heap.size, A2, c2, rfl, Blk.new _ _ _, gc2.out, (gr2.out.below ((Below.refl _ _).alloc (Nat.le_refl _) _)).more ((Below.refl _ _).alloc (Nat.le_refl _) _).size, bls⟩
            · go_simp
              refine hK.out _ _ (SS _ bls) (fun hHeld => ?_)
              clear hK K
              (try simp only [Act.put, lsA, lsZ, lsS])
              refine tkR 3 (h := fun K hK => ?_)
              go_simp
              with_reducible refine (hlm _ bls).mono ?_
              rintro en v1 ⟨A2, c2, rfl, hc2, hr2, hv1⟩
              have hv12 : Below V.heap.size V v1 := Below.trans bls (hv1.mono (by first | exact Nat.le_refl _ | (simp only [World.size_alloc, World.size_drew, World.size_setCell]; omega) | omega))
              have sv1 : V.heap.size ≤ v1.heap.size := hv12.size
              have gr2 := Lib.hid hr2
              have gc2 := Lib.hid hc2
              clear hr2 hc2
              have k6a := (Blk.new V 25 #[.bool false, .slice none 0 0, .int .i64 0]).drew
              have k6 := k6a.below hv1 k6a.lt
              clear k6a
              have z0 := k6.cell 0
              have z1 := k6.cell 1
              have z2 := k6.cell 2
              simp only [lgA, lgZ, lgS] at z0 z1 z2
              have f0 := k6.frozen 0
              have f1 := k6.frozen 1
              have f2 := k6.frozen 2
              have gk6 := Lib.hid k6
              clear k6
              refine hK.out _ _ (SS _ bls) (fun hHeld => ?_)
              clear hK K
              (try simp only [Act.put, lsA, lsZ, lsS])
              refine tkY 5 (h := ?_)
              (try simp only [Act.put, lsA, lsZ, lsS])
              refine tkR 7 (h := fun K hK => ?_)
              go_simp
              refine hK.out _ _ (SS _ bls) (fun hHeld => ?_)
              clear hK K
              (try simp only [Act.put, lsA, lsZ, lsS])
              refine wpAnyH_done (by kernel_rfl) ?_ _
              refine NoPanic.normal ?_
              (try go_wp2_with fail)
              go_meet
              have h9 := ((gk6.out.set_ 0 (.bool s)).set_ 1 (.slice A2 m2 c2)).set_ 2 (.int .i64 (k' : Int))
              exact ⟨V.heap.size, A2, c2, rfl, by simpa using h9, gc2.out, far3 gr2.out (reads_ne32 gr2.out gk6.out (fun i z => zd_cells)), bls⟩
          case rest =>
          obtain ⟨G, A2, c2, rfl, k9, hc2, hr2, hBV3⟩ := hcut
          obtain ⟨W3, hW3⟩ : ∃ W, W = wc := ⟨_, rfl⟩
          subst hW3
          have gc2 := Lib.hid hc2
          have gr3 := Lib.hid hr2
          clear hc2 hr2
          have k4 := gk4.out.below hBV3 gk4.out.lt
          have hB3 := gB.out.trans (hBV3.mono gB.out.size)
          have hr3 := gr3
          have hmy := rdmay_any s A2 m2 c2 (k' : Int) ⟨s, dig LB M, (k' : Int)⟩ Q gQ.out W3 ⟨rfl, rfl, gm2.out, gc2.out, hr3.out⟩
          have q0 := k9.cell 0
          have q1 := k9.cell 1
          have q2 := k9.cell 2
          simp only [lgA, lgZ, lgS] at q0 q1 q2
          have gk9 := Lib.hid k9
          have gk4' := Lib.hid k4
          have gB3 := Lib.hid hB3
          clear k9 k4 hB3 b0
          go_wp2_with fail
          refine hmy.mono ?_
          rintro en v5 ⟨rfl, hb5⟩
          clear q0 q1 q2 hmy
          have k9 := gk9.out.below hb5 gk9.out.lt
          have k4 := gk4'.out.below hb5 gk4'.out.lt
          have hB5 := gB3.out.trans (hb5.mono gB3.out.size)
          cases Q with
          | false =>
            replace e1 := Lib.hid (e1.out.trans (if_neg (by decide)))
            have kz : Blk (((v5.setCell ⟨w.heap.size + 1, 0, none⟩ (.bool false)).setCell ⟨w.heap.size + 1, 1, none⟩ (.slice none 0 0)).setCell ⟨w.heap.size + 1, 2, none⟩ (.int .i64 0)) (w.heap.size + 1) 25 #[.bool false, .slice none 0 0, .int .i64 0] := by have h := ((k4.set_ 0 (.bool false)).set_ 1 (.slice none 0 0)).set_ 2 (.int .i64 0); simpa using h
            have hBz := ((hB5.setCell (p := ⟨w.heap.size + 1, 0, none⟩) (by show w.heap.size ≤ w.heap.size + 1; omega) (.bool false)).setCell (p := ⟨w.heap.size + 1, 1, none⟩) (by show w.heap.size ≤ w.heap.size + 1; omega) (.slice none 0 0)).setCell (p := ⟨w.heap.size + 1, 2, none⟩) (by show w.heap.size ≤ w.heap.size + 1; omega) (.int .i64 0)
            have r0 := k4.cell 0
            have r1 := k4.cell 1
            have r2 := k4.cell 2
            simp only [lgA, lgZ, lgS] at r0 r1 r2
            have f0 := k4.frozen 0
            have f1 := k4.frozen 1
            have f2 := k4.frozen 2
            go_wp2
            refine bodyPost_ret (ret_dyad rfl _ _ (w.heap.size + 1) #[.bool false, .slice none 0 0, .int .i64 0] (.int .i64 10) rfl kz (by kernel_rfl) rfl) rfl ?_
            exact ⟨hBz, .inl ⟨e1.out, rfl⟩⟩
          | true =>
            replace e1 := Lib.hid (e1.out.trans (if_pos rfl))
            have q0 := k9.cell 0
            have q1 := k9.cell 1
            have q2 := k9.cell 2
            simp only [lgA, lgZ, lgS] at q0 q1 q2
            have hrz := Lib.hid ((hr3.out.below hb5).more hb5.size)
            have gnz := reads_ne32 hrz.out k4 (fun i z => zd_cells)
            replace gnz := Lib.hid gnz
            have kz : Blk (((v5.setCell ⟨w.heap.size + 1, 0, none⟩ (.bool s)).setCell ⟨w.heap.size + 1, 1, none⟩ (.slice A2 m2 c2)).setCell ⟨w.heap.size + 1, 2, none⟩ (.int .i64 (k' : Int))) (w.heap.size + 1) 25 #[.bool s, .slice A2 m2 c2, .int .i64 (k' : Int)] := by have h := ((k4.set_ 0 (.bool s)).set_ 1 (.slice A2 m2 c2)).set_ 2 (.int .i64 (k' : Int)); simpa using h
            have hBz := ((hB5.setCell (p := ⟨w.heap.size + 1, 0, none⟩) (by show w.heap.size ≤ w.heap.size + 1; omega) (.bool s)).setCell (p := ⟨w.heap.size + 1, 1, none⟩) (by show w.heap.size ≤ w.heap.size + 1; omega) (.slice A2 m2 c2)).setCell (p := ⟨w.heap.size + 1, 2, none⟩) (by show w.heap.size ≤ w.heap.size + 1; omega) (.int .i64 (k' : Int))
            have r0 := k4.cell 0
            have r1 := k4.cell 1
            have r2 := k4.cell 2
            simp only [lgA, lgZ, lgS] at r0 r1 r2
            have f0 := k4.frozen 0
            have f1 := k4.frozen 1
            have f2 := k4.frozen 2
            go_wp2
            refine bodyPost_ret (ret_dyad rfl _ _ (w.heap.size + 1) #[.bool s, .slice A2 m2 c2, .int .i64 (k' : Int)] (.int .i64 0) rfl kz (by kernel_rfl) rfl) rfl ?_
            exact ⟨hBz, .inr ⟨_, e1.out, A2, c2, by rw [gm2.out], rfl, rfl, rfl, by rw [gm2.out]; exact gc2.out, by rw [gm2.out]; exact far3 hrz.out gnz.out⟩⟩
end Go.Proofs.YtdmjdpaehnhdoaaDoor
