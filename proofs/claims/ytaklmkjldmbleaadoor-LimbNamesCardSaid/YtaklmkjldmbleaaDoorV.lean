/- Limb: the program's sums; limbs written over. -/
import Derived.Test.YtaklmkjldmbleaaDoorU
namespace Go.Proofs.YtaklmkjldmbleaaDoor
open Go.ChangeShapes Go.WideShapes Go.ChangeAt Go.RowKit
set_option linter.unusedSimpArgs false
set_option linter.unusedVariables false
def PutPost (w : World) (B0 ba bb bc bo g : Nat) (A A2 : Option Addr) (n n2 c c2 N r : Nat) (L : List Nat) (w' : World) : Prop :=
  Blk w' ba 22 #[.slice A n c] ∧ Blk w' bb 22 #[.slice A2 n2 c2] ∧ Blk w' bc 45 #[.int .u32 (r : Int)] ∧ Blk w' bo 22 #[.slice (some ⟨g, 0, none⟩) N N] ∧ Blk w' g 45 (ints .u32 L).toArray ∧ Below B0 w w'
theorem PutPost.drew {w : World} {B0 ba bb bc bo g : Nat} {A A2 : Option Addr} {n n2 c c2 N r : Nat} {L : List Nat} {w' : World} (h : PutPost w B0 ba bb bc bo g A A2 n n2 c c2 N r L w') : PutPost w B0 ba bb bc bo g A A2 n n2 c c2 N r L w'.drew :=
  ⟨h.1.drew, h.2.1.drew, h.2.2.1.drew, h.2.2.2.1.drew, h.2.2.2.2.1.drew, Below.drew h.2.2.2.2.2⟩
set_option maxRecDepth 100000 in
set_option maxHeartbeats 4000000 in
theorem put_any (A A2 : Option Addr) (n n2 c c2 N ba bb bc bo g B0 k q : Nat) (a b L : List Nat) (hn : a.length = n) (hn2 : b.length = n2) (hm : n ≤ 100000) (hm2 : n2 ≤ 100000) (ha : ∀ x ∈ a, x < 4294967296) (hb : ∀ x ∈ b, x < 4294967296) (hq : q ≤ 1) (hk : k < N) (hN : N ≤ 100000) (hLl : L.length = N)
    (hgc : g ≠ bc) (hg : B0 ≤ g) (hbc : B0 ≤ bc) (w : World) (hR : Reads w B0 1 A n (ints .u32 a)) (hR2 : Reads w B0 1 A2 n2 (ints .u32 b)) (ka : Blk w ba 22 #[.slice A n c]) (kb : Blk w bb 22 #[.slice A2 n2 c2]) (kc : Blk w bc 45 #[.int .u32 (q : Int)]) (ko : Blk w bo 22 #[.slice (some ⟨g, 0, none⟩) N N]) (kg : Blk w g 45 (ints .u32 L).toArray) :
    Calls Tryd.prog 42 #[.int .i64 (k : Int), .pointer (some ⟨ba, 0, none⟩), .pointer (some ⟨bb, 0, none⟩), .pointer (some ⟨bc, 0, none⟩), .pointer (some ⟨bo, 0, none⟩)] w fun en w' => en = .returned (.tuple #[]) ∧ PutPost w B0 ba bb bc bo g A A2 n n2 c c2 N ((a.getD k 0 + b.getD k 0 + q) / 4294967296) (L.set k ((a.getD k 0 + b.getD k 0 + q) % 4294967296)) w' := by
  have xa := getD_lt (B := 4294967296) (by omega) ha k
  have xb := getD_lt (B := 4294967296) (by omega) hb k
  have ca := fun w' (h : Reads w' B0 1 A n (ints .u32 a)) => lim_at A n c B0 k a hn hm (by omega) w' h
  have cb := fun w' (h : Reads w' B0 1 A2 n2 (ints .u32 b)) => lim_at A2 n2 c2 B0 k b hn2 hm2 (by omega) w' h
  obtain ⟨x, hx⟩ : ∃ x, a.getD k 0 = x := ⟨_, rfl⟩
  obtain ⟨y, hy⟩ : ∃ y, b.getD k 0 = y := ⟨_, rfl⟩
  rw [hx] at xa ⊢
  rw [hy] at xb ⊢
  simp only [hx] at ca
  simp only [hy] at cb
  obtain ⟨d, hd⟩ : ∃ d, (x + y + q) % 4294967296 = d := ⟨_, rfl⟩
  obtain ⟨r, hr⟩ : ∃ r, (x + y + q) / 4294967296 = r := ⟨_, rfl⟩
  have hadd := fun w => add32 x y q xa xb hq w
  simp only [hd, hr] at hadd
  rw [hd, hr]
  have nga : ba ≠ g := Blk.ne_ ka kg (by decide)
  have ngb : bb ≠ g := Blk.ne_ kb kg (by decide)
  have ngo : bo ≠ g := Blk.ne_ ko kg (by decide)
  have nca : ba ≠ bc := Blk.ne_ ka kc (by decide)
  have ncb : bb ≠ bc := Blk.ne_ kb kc (by decide)
  have nco : bo ≠ bc := Blk.ne_ ko kc (by decide)
  have zc : w.cell? ⟨g, k, none⟩ = some (.int .u32 ((L.getD k 0 : Nat) : Int)) := by rw [kg.cell]; simp only [List.getElem?_toArray]; exact ints_at .u32 (by rw [hLl]; exact hk)
  obtain ⟨u, hu⟩ : ∃ u, L.getD k 0 = u := ⟨_, rfl⟩
  rw [hu] at zc
  have zf := kg.frozen k
  have zl := kg.lt
  have a0 := ka.cell 0
  have b0 := kb.cell 0
  have c0 := kc.cell 0
  have cf := kc.frozen 0
  have cl := kc.lt
  have o0 := ko.cell 0
  have kg' := (kg.set_ k (.int .u32 (d : Int)))
  rw [ints_set _ _ _ (by omega), Int.toNat_natCast] at kg'
  have S14 : (w.setCell ⟨g, k, none⟩ (.int .u32 (d : Int))).drew.cell? ⟨ba, 0, none⟩ = some (.slice A n c) ∧ (w.setCell ⟨g, k, none⟩ (.int .u32 (d : Int))).drew.cell? ⟨bb, 0, none⟩ = some (.slice A2 n2 c2) ∧ (w.setCell ⟨g, k, none⟩ (.int .u32 (d : Int))).drew.cell? ⟨bo, 0, none⟩ = some (.slice (some ⟨g, 0, none⟩) N N) := ⟨(ka.far (p := ⟨g, k, none⟩) nga _).cell 0, (kb.far (p := ⟨g, k, none⟩) ngb _).cell 0, (ko.far (p := ⟨g, k, none⟩) ngo _).cell 0⟩
  have S15 : ((w.setCell ⟨g, k, none⟩ (.int .u32 (d : Int))).setCell ⟨bc, 0, none⟩ (.int .u32 (r : Int))).drew.cell? ⟨ba, 0, none⟩ = some (.slice A n c) ∧ ((w.setCell ⟨g, k, none⟩ (.int .u32 (d : Int))).setCell ⟨bc, 0, none⟩ (.int .u32 (r : Int))).drew.cell? ⟨bb, 0, none⟩ = some (.slice A2 n2 c2) ∧ ((w.setCell ⟨g, k, none⟩ (.int .u32 (d : Int))).setCell ⟨bc, 0, none⟩ (.int .u32 (r : Int))).drew.cell? ⟨bo, 0, none⟩ = some (.slice (some ⟨g, 0, none⟩) N N) := ⟨((ka.far (p := ⟨g, k, none⟩) nga _).far (p := ⟨bc, 0, none⟩) nca _).cell 0, ((kb.far (p := ⟨g, k, none⟩) ngb _).far (p := ⟨bc, 0, none⟩) ncb _).cell 0, ((ko.far (p := ⟨g, k, none⟩) ngo _).far (p := ⟨bc, 0, none⟩) nco _).cell 0⟩
  have fin : PutPost w B0 ba bb bc bo g A A2 n n2 c c2 N r (L.set k d) ((w.setCell ⟨g, k, none⟩ (.int .u32 (d : Int))).setCell ⟨bc, 0, none⟩ (.int .u32 (r : Int))) := by
    refine ⟨(ka.far (p := ⟨g, k, none⟩) nga _).far (p := ⟨bc, 0, none⟩) nca _, (kb.far (p := ⟨g, k, none⟩) ngb _).far (p := ⟨bc, 0, none⟩) ncb _, ?_, (ko.far (p := ⟨g, k, none⟩) ngo _).far (p := ⟨bc, 0, none⟩) nco _, kg'.far (p := ⟨bc, 0, none⟩) hgc _, ((Below.refl _ _).setCell (p := ⟨g, k, none⟩) hg _).setCell (p := ⟨bc, 0, none⟩) hbc _⟩
    have h := (kc.far (p := ⟨g, k, none⟩) (Ne.symm hgc) (.int .u32 (d : Int))).set_ 0 (.int .u32 (r : Int))
    simpa using h
  have i1 : (0 : Int) ≤ k := by omega
  have i2 : (k : Int) < N := by omega
  have m1 : ¬ g = bc := hgc
  have m2 : ¬ bc = g := Ne.symm hgc
  clear hx hy hd hr hu ka kb kc ko kg kg' nga ngb ngo nca ncb nco hn hn2 ha hb hLl
  go_enter Tryd.func42, Tryd.ntmps42
  go_wp2_with fail
  have SA : w.drew.cell? ⟨ba, 0, none⟩ = some (.slice A n c) ∧ w.drew.cell? ⟨bb, 0, none⟩ = some (.slice A2 n2 c2) ∧ w.drew.cell? ⟨bo, 0, none⟩ = some (.slice (some ⟨g, 0, none⟩) N N) := ⟨a0, b0, o0⟩
  refine wp_region_noPanic ?_
  refine wp_region_held_drew (S := (fun w' => w'.cell? ⟨ba, 0, none⟩ = some (.slice A n c) ∧ w'.cell? ⟨bb, 0, none⟩ = some (.slice A2 n2 c2) ∧ w'.cell? ⟨bo, 0, none⟩ = some (.slice (some ⟨g, 0, none⟩) N N))) (by kernel_rfl) (SA) (fun hHeld => ?_)
  refine wpAnyH_take (i := 0) (v := ?_) rfl (by kernel_rfl) (by kernel_rfl) (by kernel_rfl) (fun _ _ _ h => h) (Or.inl ⟨by rfl, ?_⟩) (by assumption) ?_
  rotate_left
  · (intro w hSw; (try dsimp only at hSw); go_simp; (try with_reducible rfl))
  (try simp only [Act.put, List.setIfInBounds_toArray, List.set_cons_zero, List.set_cons_succ])
  refine wpAnyH_take (i := 1) (v := ?_) rfl (by kernel_rfl) (by kernel_rfl) (by kernel_rfl) (fun _ _ _ h => h) (Or.inl ⟨by rfl, ?_⟩) (by assumption) ?_
  rotate_left
  · (intro w hSw; (try dsimp only at hSw); go_simp; (try with_reducible rfl))
  (try simp only [Act.put, List.setIfInBounds_toArray, List.set_cons_zero, List.set_cons_succ])
  refine wpAnyH_take (i := 2) (v := ?_) rfl (by kernel_rfl) (by kernel_rfl) (by kernel_rfl) (fun _ _ _ h => h) (Or.inl ⟨by rfl, ?_⟩) (by assumption) ?_
  rotate_left
  · (intro w hSw; (try dsimp only at hSw); go_simp; (try with_reducible rfl))
  (try simp only [Act.put, List.setIfInBounds_toArray, List.set_cons_zero, List.set_cons_succ])
  refine wpAnyH_take (i := 3) (v := ?_) rfl (by kernel_rfl) (by kernel_rfl) (by kernel_rfl) (fun _ _ _ h => h) (Or.inl ⟨by rfl, ?_⟩) (by assumption) ?_
  rotate_left
  · (intro w hSw; (try dsimp only at hSw); go_simp; (try with_reducible rfl))
  (try simp only [Act.put, List.setIfInBounds_toArray, List.set_cons_zero, List.set_cons_succ])
  refine wpAnyH_take (i := 5) (v := ?_) rfl (by kernel_rfl) (by kernel_rfl) (by kernel_rfl) (fun _ _ _ h => h) (Or.inl ⟨by rfl, ?_⟩) (by assumption) ?_
  rotate_left
  · (intro w hSw; (try dsimp only at hSw); go_simp; (try with_reducible rfl))
  (try simp only [Act.put, List.setIfInBounds_toArray, List.set_cons_zero, List.set_cons_succ])
  refine wpAnyH_take (i := 6) (v := ?_) rfl (by kernel_rfl) (by kernel_rfl) (by kernel_rfl) (fun _ _ _ h => h) (Or.inl ⟨by rfl, ?_⟩) (by assumption) ?_
  rotate_left
  · (intro w hSw; (try dsimp only at hSw); go_simp; (try with_reducible rfl))
  (try simp only [Act.put, List.setIfInBounds_toArray, List.set_cons_zero, List.set_cons_succ])
  refine wpAnyH_ready (rs := [4, 8]) (by kernel_rfl) (by simp) ?_
  refine AllReadyH.cons rfl (fun K hK => ?_) (AllReadyH.cons rfl (fun K hK => ?_) AllReadyH.nil)
  · go_simp
    go_at_call 36
    (with_reducible refine (ca _ hR.drew).mono ?_)
    rintro e w' ⟨rfl, rfl⟩
    go_wp2_with fail
    refine hK.out _ _ (SA) (fun hHeld => ?_)
    clear hK K
    (try simp only [Act.put, List.setIfInBounds_toArray, List.set_cons_zero, List.set_cons_succ])
    refine wpAnyH_ready (rs := [7, 8]) (by kernel_rfl) (by simp) ?_
    refine AllReadyH.cons rfl (fun K hK => ?_) (AllReadyH.cons rfl (fun K hK => ?_) AllReadyH.nil)
    · go_simp
      go_at_call 36
      (with_reducible refine (cb _ hR2.drew).mono ?_)
      rintro e w' ⟨rfl, rfl⟩
      go_wp2_with fail
      refine hK.out _ _ (SA) (fun hHeld => ?_)
      clear hK K
      (try simp only [Act.put, List.setIfInBounds_toArray, List.set_cons_zero, List.set_cons_succ])
      refine wpAnyH_ready (rs := [8]) (by kernel_rfl) (by simp) ?_
      refine AllReadyH.cons rfl (fun K hK => ?_) AllReadyH.nil
      go_simp
      refine hK.out _ _ (SA) (fun hHeld => ?_)
      clear hK K
      (try simp only [Act.put, List.setIfInBounds_toArray, List.set_cons_zero, List.set_cons_succ])
      refine wpAnyH_ready (rs := [9]) (by kernel_rfl) (by simp) ?_
      refine AllReadyH.cons rfl (fun K hK => ?_) AllReadyH.nil
      go_simp
      go_at_call 43
      (with_reducible refine (hadd _).mono ?_)
      rintro e w' ⟨rfl, rfl⟩
      go_wp2_with fail
      refine hK.out _ _ (SA) (fun hHeld => ?_)
      clear hK K
      (try simp only [Act.put, List.setIfInBounds_toArray, List.set_cons_zero, List.set_cons_succ])
      refine wpAnyH_take (i := 10) (v := ?_) rfl (by kernel_rfl) (by kernel_rfl) (by kernel_rfl) (fun _ _ _ h => h) (Or.inl ⟨by rfl, ?_⟩) (by assumption) ?_
      rotate_left
      · (intro w hSw; (try dsimp only at hSw); go_simp; (try with_reducible rfl))
      (try simp only [Act.put, List.setIfInBounds_toArray, List.set_cons_zero, List.set_cons_succ])
      refine wpAnyH_take (i := 11) (v := ?_) rfl (by kernel_rfl) (by kernel_rfl) (by kernel_rfl) (fun _ _ _ h => h) (Or.inl ⟨by rfl, ?_⟩) (by assumption) ?_
      rotate_left
      · (intro w hSw; (try dsimp only at hSw); go_simp; (try with_reducible rfl))
      (try simp only [Act.put, List.setIfInBounds_toArray, List.set_cons_zero, List.set_cons_succ])
      refine wpAnyH_take (i := 12) (v := ?_) rfl (by kernel_rfl) (by kernel_rfl) (by kernel_rfl) (fun _ _ _ h => h) (Or.inl ⟨by rfl, ?_⟩) (by assumption) ?_
      rotate_left
      · (intro w hSw; (try dsimp only at hSw); go_simp; (try with_reducible rfl))
      (try simp only [Act.put, List.setIfInBounds_toArray, List.set_cons_zero, List.set_cons_succ])
      refine wpAnyH_take (i := 13) (v := ?_) rfl (by kernel_rfl) (by kernel_rfl) (by kernel_rfl) (fun _ _ _ h => h) (Or.inl ⟨by rfl, ?_⟩) (by assumption) ?_
      rotate_left
      · (intro w hSw; (try dsimp only at hSw); go_simp; (try with_reducible rfl))
      (try simp only [Act.put, List.setIfInBounds_toArray, List.set_cons_zero, List.set_cons_succ])
      refine wpAnyH_ready (rs := [14]) (by kernel_rfl) (by simp) ?_
      refine AllReadyH.cons rfl (fun K hK => ?_) AllReadyH.nil
      go_simp
      refine hK.out _ _ (S14) (fun hHeld => ?_)
      clear hK K
      (try simp only [Act.put, List.setIfInBounds_toArray, List.set_cons_zero, List.set_cons_succ])
      refine wpAnyH_ready (rs := [15]) (by kernel_rfl) (by simp) ?_
      refine AllReadyH.cons rfl (fun K hK => ?_) AllReadyH.nil
      go_simp
      refine hK.out _ _ (S15) (fun hHeld => ?_)
      clear hK K
      (try simp only [Act.put, List.setIfInBounds_toArray, List.set_cons_zero, List.set_cons_succ])
      refine wpAnyH_done (by kernel_rfl) ?_ _
      refine NoPanic.normal ?_
      go_wp2
      go_end0
      exact ⟨rfl, by first | exact fin | exact fin.drew⟩
    · go_simp
      refine hK.out _ _ (SA) (fun hHeld => ?_)
      clear hK K
      (try simp only [Act.put, List.setIfInBounds_toArray, List.set_cons_zero, List.set_cons_succ])
      refine wpAnyH_ready (rs := [7]) (by kernel_rfl) (by simp) ?_
      refine AllReadyH.cons rfl (fun K hK => ?_) AllReadyH.nil
      go_simp
      go_at_call 36
      (with_reducible refine (cb _ hR2.drew).mono ?_)
      rintro e w' ⟨rfl, rfl⟩
      go_wp2_with fail
      refine hK.out _ _ (SA) (fun hHeld => ?_)
      clear hK K
      (try simp only [Act.put, List.setIfInBounds_toArray, List.set_cons_zero, List.set_cons_succ])
      refine wpAnyH_ready (rs := [9]) (by kernel_rfl) (by simp) ?_
      refine AllReadyH.cons rfl (fun K hK => ?_) AllReadyH.nil
      go_simp
      go_at_call 43
      (with_reducible refine (hadd _).mono ?_)
      rintro e w' ⟨rfl, rfl⟩
      go_wp2_with fail
      refine hK.out _ _ (SA) (fun hHeld => ?_)
      clear hK K
      (try simp only [Act.put, List.setIfInBounds_toArray, List.set_cons_zero, List.set_cons_succ])
      refine wpAnyH_take (i := 10) (v := ?_) rfl (by kernel_rfl) (by kernel_rfl) (by kernel_rfl) (fun _ _ _ h => h) (Or.inl ⟨by rfl, ?_⟩) (by assumption) ?_
      rotate_left
      · (intro w hSw; (try dsimp only at hSw); go_simp; (try with_reducible rfl))
      (try simp only [Act.put, List.setIfInBounds_toArray, List.set_cons_zero, List.set_cons_succ])
      refine wpAnyH_take (i := 11) (v := ?_) rfl (by kernel_rfl) (by kernel_rfl) (by kernel_rfl) (fun _ _ _ h => h) (Or.inl ⟨by rfl, ?_⟩) (by assumption) ?_
      rotate_left
      · (intro w hSw; (try dsimp only at hSw); go_simp; (try with_reducible rfl))
      (try simp only [Act.put, List.setIfInBounds_toArray, List.set_cons_zero, List.set_cons_succ])
      refine wpAnyH_take (i := 12) (v := ?_) rfl (by kernel_rfl) (by kernel_rfl) (by kernel_rfl) (fun _ _ _ h => h) (Or.inl ⟨by rfl, ?_⟩) (by assumption) ?_
      rotate_left
      · (intro w hSw; (try dsimp only at hSw); go_simp; (try with_reducible rfl))
      (try simp only [Act.put, List.setIfInBounds_toArray, List.set_cons_zero, List.set_cons_succ])
      refine wpAnyH_take (i := 13) (v := ?_) rfl (by kernel_rfl) (by kernel_rfl) (by kernel_rfl) (fun _ _ _ h => h) (Or.inl ⟨by rfl, ?_⟩) (by assumption) ?_
      rotate_left
      · (intro w hSw; (try dsimp only at hSw); go_simp; (try with_reducible rfl))
      (try simp only [Act.put, List.setIfInBounds_toArray, List.set_cons_zero, List.set_cons_succ])
      refine wpAnyH_ready (rs := [14]) (by kernel_rfl) (by simp) ?_
      refine AllReadyH.cons rfl (fun K hK => ?_) AllReadyH.nil
      go_simp
      refine hK.out _ _ (S14) (fun hHeld => ?_)
      clear hK K
      (try simp only [Act.put, List.setIfInBounds_toArray, List.set_cons_zero, List.set_cons_succ])
      refine wpAnyH_ready (rs := [15]) (by kernel_rfl) (by simp) ?_
      refine AllReadyH.cons rfl (fun K hK => ?_) AllReadyH.nil
      go_simp
      refine hK.out _ _ (S15) (fun hHeld => ?_)
      clear hK K
      (try simp only [Act.put, List.setIfInBounds_toArray, List.set_cons_zero, List.set_cons_succ])
      refine wpAnyH_done (by kernel_rfl) ?_ _
      refine NoPanic.normal ?_
      go_wp2
      go_end0
      exact ⟨rfl, by first | exact fin | exact fin.drew⟩
  · go_simp
    refine hK.out _ _ (SA) (fun hHeld => ?_)
    clear hK K
    (try simp only [Act.put, List.setIfInBounds_toArray, List.set_cons_zero, List.set_cons_succ])
    refine wpAnyH_ready (rs := [4]) (by kernel_rfl) (by simp) ?_
    refine AllReadyH.cons rfl (fun K hK => ?_) AllReadyH.nil
    go_simp
    go_at_call 36
    (with_reducible refine (ca _ hR.drew).mono ?_)
    rintro e w' ⟨rfl, rfl⟩
    go_wp2_with fail
    refine hK.out _ _ (SA) (fun hHeld => ?_)
    clear hK K
    (try simp only [Act.put, List.setIfInBounds_toArray, List.set_cons_zero, List.set_cons_succ])
    refine wpAnyH_ready (rs := [7]) (by kernel_rfl) (by simp) ?_
    refine AllReadyH.cons rfl (fun K hK => ?_) AllReadyH.nil
    go_simp
    go_at_call 36
    (with_reducible refine (cb _ hR2.drew).mono ?_)
    rintro e w' ⟨rfl, rfl⟩
    go_wp2_with fail
    refine hK.out _ _ (SA) (fun hHeld => ?_)
    clear hK K
    (try simp only [Act.put, List.setIfInBounds_toArray, List.set_cons_zero, List.set_cons_succ])
    refine wpAnyH_ready (rs := [9]) (by kernel_rfl) (by simp) ?_
    refine AllReadyH.cons rfl (fun K hK => ?_) AllReadyH.nil
    go_simp
    go_at_call 43
    (with_reducible refine (hadd _).mono ?_)
    rintro e w' ⟨rfl, rfl⟩
    go_wp2_with fail
    refine hK.out _ _ (SA) (fun hHeld => ?_)
    clear hK K
    (try simp only [Act.put, List.setIfInBounds_toArray, List.set_cons_zero, List.set_cons_succ])
    refine wpAnyH_take (i := 10) (v := ?_) rfl (by kernel_rfl) (by kernel_rfl) (by kernel_rfl) (fun _ _ _ h => h) (Or.inl ⟨by rfl, ?_⟩) (by assumption) ?_
    rotate_left
    · (intro w hSw; (try dsimp only at hSw); go_simp; (try with_reducible rfl))
    (try simp only [Act.put, List.setIfInBounds_toArray, List.set_cons_zero, List.set_cons_succ])
    refine wpAnyH_take (i := 11) (v := ?_) rfl (by kernel_rfl) (by kernel_rfl) (by kernel_rfl) (fun _ _ _ h => h) (Or.inl ⟨by rfl, ?_⟩) (by assumption) ?_
    rotate_left
    · (intro w hSw; (try dsimp only at hSw); go_simp; (try with_reducible rfl))
    (try simp only [Act.put, List.setIfInBounds_toArray, List.set_cons_zero, List.set_cons_succ])
    refine wpAnyH_take (i := 12) (v := ?_) rfl (by kernel_rfl) (by kernel_rfl) (by kernel_rfl) (fun _ _ _ h => h) (Or.inl ⟨by rfl, ?_⟩) (by assumption) ?_
    rotate_left
    · (intro w hSw; (try dsimp only at hSw); go_simp; (try with_reducible rfl))
    (try simp only [Act.put, List.setIfInBounds_toArray, List.set_cons_zero, List.set_cons_succ])
    refine wpAnyH_take (i := 13) (v := ?_) rfl (by kernel_rfl) (by kernel_rfl) (by kernel_rfl) (fun _ _ _ h => h) (Or.inl ⟨by rfl, ?_⟩) (by assumption) ?_
    rotate_left
    · (intro w hSw; (try dsimp only at hSw); go_simp; (try with_reducible rfl))
    (try simp only [Act.put, List.setIfInBounds_toArray, List.set_cons_zero, List.set_cons_succ])
    refine wpAnyH_ready (rs := [14]) (by kernel_rfl) (by simp) ?_
    refine AllReadyH.cons rfl (fun K hK => ?_) AllReadyH.nil
    go_simp
    refine hK.out _ _ (S14) (fun hHeld => ?_)
    clear hK K
    (try simp only [Act.put, List.setIfInBounds_toArray, List.set_cons_zero, List.set_cons_succ])
    refine wpAnyH_ready (rs := [15]) (by kernel_rfl) (by simp) ?_
    refine AllReadyH.cons rfl (fun K hK => ?_) AllReadyH.nil
    go_simp
    refine hK.out _ _ (S15) (fun hHeld => ?_)
    clear hK K
    (try simp only [Act.put, List.setIfInBounds_toArray, List.set_cons_zero, List.set_cons_succ])
    refine wpAnyH_done (by kernel_rfl) ?_ _
    refine NoPanic.normal ?_
    go_wp2
    go_end0
    exact ⟨rfl, by first | exact fin | exact fin.drew⟩
theorem plusW {V P k a b c : Nat} (h : V + 4294967296 ^ k * c = P) : V + 4294967296 ^ k * ((a + b + c) % 4294967296) + 4294967296 ^ (k + 1) * ((a + b + c) / 4294967296) = P + 4294967296 ^ k * a + 4294967296 ^ k * b := by
  have e : (a + b + c) % 4294967296 + 4294967296 * ((a + b + c) / 4294967296) = a + b + c := Nat.mod_add_div _ _
  have : 4294967296 ^ k * ((a + b + c) % 4294967296) + 4294967296 ^ (k + 1) * ((a + b + c) / 4294967296) = 4294967296 ^ k * (a + b + c) := by
    rw [Nat.pow_succ, Nat.mul_assoc, ← Nat.mul_add, e]
  rw [Nat.mul_add, Nat.mul_add] at this
  omega
set_option maxRecDepth 100000 in
set_option maxHeartbeats 8000000 in
theorem add_any (A A2 : Option Addr) (n n2 c c2 : Nat) (a b : List Nat) (hn : a.length = n) (hn2 : b.length = n2) (ha : ∀ x ∈ a, x < 4294967296) (hb : ∀ x ∈ b, x < 4294967296) (w : World) (hR : Reads w w.heap.size 1 A n (ints .u32 a)) (hR2 : Reads w w.heap.size 1 A2 n2 (ints .u32 b)) :
    Calls Tryd.prog 20 #[.slice A n c, .slice A2 n2 c2] w (TOwn w (addS a b)) := by
  have hB2 := ((Below.refl w.heap.size w).alloc (Nat.le_refl _) (.cells #[.slice A n c] 22)).alloc (by rw [World.size_alloc]; omega) (.cells #[.slice A2 n2 c2] 22)
  have ka := (Blk.new w 22 #[.slice A n c]).alloc (.cells #[.slice A2 n2 c2] 22)
  have kb := Blk.new (w.alloc (.cells #[.slice A n c] 22)) 22 #[.slice A2 n2 c2]
  rw [World.size_alloc] at kb
  obtain ⟨W2, hW2⟩ : ∃ W2, W2 = (w.alloc (.cells #[.slice A n c] 22)).alloc (.cells #[.slice A2 n2 c2] 22) := ⟨_, rfl⟩
  rw [← hW2] at hB2 ka kb
  have hz2 : W2.heap.size = w.heap.size + 1 + 1 := by rw [hW2, World.size_alloc, World.size_alloc]
  have hask := fun E h => ask2 A A2 n n2 c c2 a b hn hn2 W2 ((hR.below hB2).more hB2.size) ((hR2.below hB2).more hB2.size) E h
  have hB3 := hB2.alloc (by omega) (.cells #[.slice A n c, .slice A2 n2 c2] 22)
  have xa0 := ka.cell 0
  have xb0 := kb.cell 0
  have xal := ka.lt
  have xbl := kb.lt
  have xae := World.new_ne W2 ⟨w.heap.size, 0, none⟩ xa0
  have xbe := World.new_ne W2 ⟨w.heap.size + 1, 0, none⟩ xb0
  cases hbo : both a b
  · have hq := hask 8 (by rw [hbo]; rfl)
    rw [hz2] at hq
    rw [show addS a b = ([], 8) by unfold addS; rw [hbo]; rfl]
    clear ha hb hn hn2 hR hR2 hbo hask ka kb hB2
    have gz := Lib.hid hz2
    clear hz2
    go_enter Tryd.func20, Tryd.ntmps20
    go_wp2_with fail
    rw [← hW2]
    clear hW2
    refine hq.mono ?_
    rintro e w1 ⟨rfl, rfl⟩
    go_wp2
    go_ret2
    exact onil hB3 8
  have hq := hask 0 (by rw [hbo]; rfl)
  rw [hz2] at hq
  have hab := hbo
  unfold both at hab
  simp only [Bool.and_eq_true] at hab
  have la := mayB_len hab.1
  have lb := mayB_len hab.2
  obtain ⟨M, hM⟩ : ∃ M, max n n2 = M := ⟨_, rfl⟩
  have hM40 : M ≤ 40 := by omega
  have pa := pre_all 4294967296 a M (by omega)
  have pb := pre_all 4294967296 b M (by omega)
  have pa2 := pre_all 4294967296 a (M + 1) (by omega)
  have pb2 := pre_all 4294967296 b (M + 1) (by omega)
  have lpa := pre_lt (B := 4294967296) (by omega) ha M
  have lpb := pre_lt (B := 4294967296) (by omega) hb M
  have hmx : (if n < n2 then (n2 : Int) else (n : Int)) = (M : Int) := by split <;> omega
  have hmk := run_z32 (M + 1) (by omega)
  rw [show ((M + 1 : Nat) : Int) = (M : Int) + 1 by omega] at hmk
  rw [show addS a b = overS (val 4294967296 a + val 4294967296 b) by unfold addS; rw [if_pos hbo]]
  have gx := Lib.hid hmx
  have gz := Lib.hid hz2
  have gn := Lib.hid hn
  have gn2 := Lib.hid hn2
  have gM := Lib.hid hM
  -- the worlds to come
  have kg := Blk.new (W2.alloc (.cells #[.slice A n c, .slice A2 n2 c2] 22)) 45 (ints .u32 (List.replicate (M + 1) 0)).toArray
  have hB4 := hB3.alloc (by rw [World.size_alloc]; omega) (Z32 (M + 1))
  obtain ⟨Z, hZ⟩ : ∃ Z, Z32 (M + 1) = Z := ⟨_, rfl⟩
  have hZc : Obj.cells (ints .u32 (List.replicate (M + 1) 0)).toArray 45 = Z := hZ
  rw [hZ] at hB4
  rw [hZc, World.size_alloc] at kg
  simp only [hZ] at hmk
  clear hask hbo hab hz2 hn hn2 hM hZ hZc la lb hmx
  go_enter Tryd.func20, Tryd.ntmps20
  go_wp2_with fail
  rw [← hW2]
  have gW := Lib.hid hW2
  clear hW2
  refine hq.mono ?_
  rintro e w1 ⟨rfl, rfl⟩
  have hmx := gx.out
  go_wp2_with fail
  obtain ⟨g, hg⟩ : ∃ g, g = W2.heap.size + 1 := ⟨_, rfl⟩
  have hB5 := (hB4.alloc (by rw [World.size_alloc, World.size_alloc]; have := gz.out; omega) (.cells #[.slice (some ⟨W2.heap.size + 1, 0, none⟩) (M + 1) (M + 1)] 22)).alloc (by rw [World.size_alloc, World.size_alloc, World.size_alloc]; have := gz.out; omega) (.cells #[.int .u32 0] 45)
  have ka5 := (((ka.alloc (.cells #[.slice A n c, .slice A2 n2 c2] 22)).alloc Z).alloc (.cells #[.slice (some ⟨W2.heap.size + 1, 0, none⟩) (M + 1) (M + 1)] 22)).alloc (.cells #[.int .u32 0] 45)
  have kb5 := (((kb.alloc (.cells #[.slice A n c, .slice A2 n2 c2] 22)).alloc Z).alloc (.cells #[.slice (some ⟨W2.heap.size + 1, 0, none⟩) (M + 1) (M + 1)] 22)).alloc (.cells #[.int .u32 0] 45)
  have kg5 := (kg.alloc (.cells #[.slice (some ⟨W2.heap.size + 1, 0, none⟩) (M + 1) (M + 1)] 22)).alloc (.cells #[.int .u32 0] 45)
  have ko5 := (Blk.new ((W2.alloc (.cells #[.slice A n c, .slice A2 n2 c2] 22)).alloc Z) 22 #[.slice (some ⟨W2.heap.size + 1, 0, none⟩) (M + 1) (M + 1)]).alloc (.cells #[.int .u32 0] 45)
  have kc5 := Blk.new (((W2.alloc (.cells #[.slice A n c, .slice A2 n2 c2] 22)).alloc Z).alloc (.cells #[.slice (some ⟨W2.heap.size + 1, 0, none⟩) (M + 1) (M + 1)] 22)) 45 #[.int .u32 0]
  simp only [World.size_alloc] at ko5 kc5
  obtain ⟨W5, hW5⟩ : ∃ W5, W5 = (((W2.alloc (.cells #[.slice A n c, .slice A2 n2 c2] 22)).alloc Z).alloc (.cells #[.slice (some ⟨W2.heap.size + 1, 0, none⟩) (M + 1) (M + 1)] 22)).alloc (.cells #[.int .u32 0] 45) := ⟨_, rfl⟩
  rw [← hW5] at hB5 ka5 kb5 kg5 ko5 kc5 ⊢
  rw [← hg] at kg5 ko5 kc5 ⊢
  have hgw : w.heap.size ≤ g := by have := gz.out; omega
  have gW5 := Lib.hid hW5
  have gg := Lib.hid hg
  have hput := fun (k q : Nat) (L : List Nat) (hq : q ≤ 1) (hk : k < M + 1) (hL : L.length = M + 1) (w' : World) (hw : Below w.heap.size w w') (ka : Blk w' w.heap.size 22 #[.slice A n c]) (kb : Blk w' (w.heap.size + 1) 22 #[.slice A2 n2 c2]) (kc : Blk w' (g + 1 + 1) 45 #[.int .u32 (q : Int)]) (ko : Blk w' (g + 1) 22 #[.slice (some ⟨g, 0, none⟩) (M + 1) (M + 1)]) (kg : Blk w' g 45 (ints .u32 L).toArray) =>
    put_any A A2 n n2 c c2 (M + 1) w.heap.size (w.heap.size + 1) (g + 1 + 1) (g + 1) g w.heap.size k q a b L gn.out gn2.out (by have := gM.out; omega) (by have := gM.out; omega) ha hb hq hk (by omega) hL (by omega) hgw (by omega) w' (hR.below hw) (hR2.below hw) ka kb kc ko kg
  have gp := Lib.hid hput
  clear hW5 hg hput hmk hB2 hB3 hB4 ka kb kg hq xa0 xb0 xal xbl xae xbe hmx hR hR2
  go_loopw [28] (fun i wr => ∃ (k q : Nat) (L : List Nat), k ≤ M + 1 ∧ i = .int .i64 (k : Int) ∧ q ≤ 1 ∧ Hid (L.length = M + 1) ∧ Hid (∀ x ∈ L, x < 4294967296) ∧ Hid (pre 4294967296 L k + 4294967296 ^ k * q = pre 4294967296 a k + pre 4294967296 b k) ∧ PutPost w w.heap.size w.heap.size (w.heap.size + 1) (g + 1 + 1) (g + 1) g A A2 n n2 c c2 (M + 1) q L wr) (fun i _ => M + 1 - (intOf i).toNat)
  case atStart => exact ⟨0, 0, List.replicate (M + 1) 0, Nat.zero_le _, rfl, by omega, Lib.hid (by simp), Lib.hid (fun x hx => by rw [(List.mem_replicate.1 hx).2]; omega), Lib.hid rfl, ka5, kb5, kc5, ko5, kg5, hB5⟩
  case round =>
    clear hB5 ka5 kb5 kc5 ko5 kg5
    obtain ⟨k, q, L, hk, rfl, hq, hLl, hLb, hv, hP⟩ := hrel
    by_cases hlt : k < M + 1
    · have hc := gp.out k q L hq hlt hLl.out wr hP.2.2.2.2.2 hP.1 hP.2.1 hP.2.2.1 hP.2.2.2.1 hP.2.2.2.2.1
      have hBr := hP.2.2.2.2.2
      have xa := getD_lt (B := 4294967296) (by omega) ha k
      have xb := getD_lt (B := 4294967296) (by omega) hb k
      have va := pre_succ 4294967296 a k
      have vb := pre_succ 4294967296 b k
      obtain ⟨x, hx⟩ : ∃ x, a.getD k 0 = x := ⟨_, rfl⟩
      obtain ⟨y, hy⟩ : ∃ y, b.getD k 0 = y := ⟨_, rfl⟩
      rw [hx] at va xa hc
      rw [hy] at vb xb hc
      have hv' : Hid (pre 4294967296 (L.set k ((x + y + q) % 4294967296)) (k + 1) + 4294967296 ^ (k + 1) * ((x + y + q) / 4294967296) = pre 4294967296 a (k + 1) + pre 4294967296 b (k + 1)) := Lib.hid (by
        rw [va, vb, pre_set_at (by rw [hLl.out]; exact hlt)]
        have := plusW (a := x) (b := y) hv.out
        omega)
      have hLb' : Hid (∀ z ∈ L.set k ((x + y + q) % 4294967296), z < 4294967296) := Lib.hid (by
        intro z hz
        rcases List.mem_or_eq_of_mem_set hz with h | h
        · exact hLb.out z h
        · rw [h]; exact Nat.mod_lt _ (by omega))
      have hLl' : Hid ((L.set k ((x + y + q) % 4294967296)).length = M + 1) := Lib.hid (by rw [List.length_set]; exact hLl.out)
      have hr1 : (x + y + q) / 4294967296 ≤ 1 := by omega
      obtain ⟨d, hd⟩ : ∃ d, (x + y + q) % 4294967296 = d := ⟨_, rfl⟩
      obtain ⟨r, hr⟩ : ∃ r, (x + y + q) / 4294967296 = r := ⟨_, rfl⟩
      rw [hd, hr] at hc hv'
      rw [hd] at hLb' hLl'
      rw [hr] at hr1
      have t1 : decide ((k : Int) < (M : Int) + 1) = true := decide_eq_true (by omega)
      clear hx hy va vb hv hLb hLl ha hb pa pb pa2 pb2 hP hd hr lpa lpb
      go_wp2_with (go_at_call 42; (with_reducible refine hc.mono ?_); rintro e w7 ⟨rfl, hP7⟩)
      go_roundw
      case rel => exact ⟨k + 1, r, L.set k d, by omega, by go_num, hr1, hLl', hLb', hv', hP7.1, hP7.2.1, hP7.2.2.1, hP7.2.2.2.1, hP7.2.2.2.2.1, hBr.trans hP7.2.2.2.2.2⟩
      case measure => simp [intOf] <;> omega
    · obtain rfl : k = M + 1 := by omega
      obtain ⟨_, _, _, ko, kg, hBr⟩ := hP
      have hv2 := hv.out
      have pL := pre_all 4294967296 L (M + 1) (by rw [hLl.out]; exact Nat.le_refl _)
      rw [pa2, pb2, pL] at hv2
      have h2 : 4294967296 ^ (M + 1) = 4294967296 * 4294967296 ^ M := by rw [Nat.pow_succ, Nat.mul_comm]
      have q0 : q = 0 := by
        rcases Nat.eq_zero_or_pos q with h | h
        · exact h
        · have : q = 1 := by omega
          subst this
          rw [pa] at lpa
          rw [pb] at lpb
          have : 0 < 4294967296 ^ M := Nat.pow_pos (by omega)
          omega
      subst q0
      rw [Nat.mul_zero, Nat.add_zero] at hv2
      have hO := own_of_make kg hgw
      simp only [List.size_toArray, List.length_map, hLl.out] at hO
      have hRo := hO.reads
      obtain ⟨m, hL⟩ : ∃ m, (dig 4294967296 (val 4294967296 a + val 4294967296 b)).length = m := ⟨_, rfl⟩
      obtain ⟨ht, hmk⟩ := dig_take (B := 4294967296) (by omega) hLb.out hv2 hL
      rw [hLl.out] at hmk
      have hres := hO.cut hmk
      rw [← List.map_take, ht] at hres
      have o0 := ko.cell 0
      have t1 : decide ((M : Int) + 1 < (M : Int) + 1) = false := decide_eq_false (by omega)
      by_cases h40 : m ≤ 40
      · have htold := told_ok (some ⟨g, 0, none⟩) (M + 1) (M + 1) wr.heap.size m L hLl.out (by omega) (Nat.le_refl _) hLb.out (by rw [hv2]; exact hL) h40 wr hRo
        have hov := Lib.hid (show overS (val 4294967296 a + val 4294967296 b) = (dig 4294967296 (val 4294967296 a + val 4294967296 b), 0) by unfold overS; rw [if_pos (by omega)])
        have gL := Lib.hid hL
        clear hv hv2 hLl hLb ha hb pa pb pa2 pb2 pL lpa lpb ht hO hRo ko kg gn gn2 gM gx gp h2 hL
        go_wp2_with (go_at_call 30; (with_reducible refine htold.mono ?_); rintro e w7 ⟨rfl, rfl⟩)
        go_ret2
        rw [hov.out]
        exact ⟨some ⟨g, 0, none⟩, m, by simp only [gL.out]; rfl, by simp only [gL.out]; exact Nat.le_refl _, by simp only [gL.out]; exact hres, hBr⟩
      · have htold := told_over (some ⟨g, 0, none⟩) (M + 1) (M + 1) wr.heap.size m L hLl.out (by omega) (Nat.le_refl _) hLb.out (by rw [hv2]; exact hL) (by omega) wr hRo
        have hov := Lib.hid (show overS (val 4294967296 a + val 4294967296 b) = ([], 10) by unfold overS; rw [if_neg (by omega)])
        clear hv hv2 hLl hLb ha hb pa pb pa2 pb2 pL lpa lpb ht hO hRo ko kg gn gn2 gM gx gp h2 hL hres
        go_wp2_with (go_at_call 30; (with_reducible refine htold.mono ?_); rintro e w7 ⟨rfl, rfl⟩)
        go_ret2
        rw [hov.out]
        exact onil hBr 10
set_option maxHeartbeats 4000000 in
theorem spoil_any (A : Option Addr) (n c base : Nat) (xs : List Nat) (hm : n ≤ 100000) (w : World) (hO : OwnR w base 45 A n (ints .u32 xs)) :
    Calls Tryd.prog 18 #[.slice A n c] w fun en w' => en = .returned (.tuple #[]) ∧ Below base w w' := by
  go_enter Tryd.func18, Tryd.ntmps18
  go_wp2
  go_loopw [2] (fun i wr => ∃ (k : Nat) (L : List Nat), k ≤ n ∧ i = .int .i64 (k : Int) ∧ OwnR wr base 45 A n (ints .u32 L) ∧ Below base w wr) (fun i _ => n - (intOf i).toNat)
  case atStart => exact ⟨0, xs, Nat.zero_le _, rfl, hO, Below.refl _ _⟩
  case round =>
    clear hO
    obtain ⟨k, L, hk, rfl, hO, hB⟩ := hrel
    by_cases hlt : k < n
    · obtain ⟨g, rfl, hb, hl, hc, hf, hs⟩ := hO.at_ hlt
      have hLl : L.length = n := by have := hO.1; simpa using this
      rw [ints_at .u32 (by omega)] at hc
      have hs7 := hs (.int .u32 7)
      rw [show (ints .u32 L).set k (.int .u32 7) = ints .u32 (L.set k 7) by simp [ints, List.map_set]] at hs7
      have hB7 := hB.setCell (p := ⟨g, k, none⟩) hb (.int .u32 7)
      have i1 : (0 : Int) ≤ k := by omega
      have i2 : (k : Int) < n := by omega
      obtain ⟨u, hu⟩ : ∃ u, L.getD k 0 = u := ⟨_, rfl⟩
      rw [hu] at hc
      clear hO hs hu hLl
      go_wp2
      go_roundw
      case rel => exact ⟨k + 1, L.set k 7, by omega, by go_num, hs7, hB7⟩
      case measure => simp [intOf] <;> omega
    · obtain rfl : k = n := by omega
      clear hO
      go_wp2
      go_end0
      exact ⟨rfl, hB⟩
end Go.Proofs.YtaklmkjldmbleaaDoor
