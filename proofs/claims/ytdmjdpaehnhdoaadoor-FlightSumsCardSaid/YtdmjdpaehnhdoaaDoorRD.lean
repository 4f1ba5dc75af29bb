/- Door: the reference's Add of dyads -/
import Derived.Test.YtdmjdpaehnhdoaaDoorRC
import Derived.Test.YtdmjdpaehnhdoaaDoorDJ
namespace Go.Proofs.YtdmjdpaehnhdoaaDoor
open Go.ChangeShapes Go.WideShapes Go.ChangeAt Go.RowKit
set_option linter.unusedSimpArgs false
set_option linter.unusedVariables false
open Go.Shelf
set_option maxRecDepth 100000
def rfE (R : Option Dy) : Int := match R with | none => 10 | some _ => 0
def rfM (R : Option Dy) : Dy := R.getD zdy
theorem rdD_z (w : World) : RdD w w.heap.size zdy.neg none zdy.ls.length 0 zdy.ex zdy := ⟨rfl, rfl, rfl, Nat.le_refl _, Reads.none_⟩
theorem rfrm_one {R : Option Dy} {w w' : World} {en : Ending} (h : RFrm R w en w') : ∃ (d : Dy) (X : Option Addr) (c : Nat), d = rfM R ∧ en = .returned (.tuple #[.agg #[.bool d.neg, .slice X d.ls.length c, .int .i64 d.ex], .int .i64 (rfE R)]) ∧ RdD w' w'.heap.size d.neg X d.ls.length c d.ex d ∧ Below w.heap.size w w' := by
  obtain ⟨hb, ⟨rfl, he⟩ | ⟨d, rfl, X, c, he, hr⟩⟩ := h
  · exact ⟨zdy, none, 0, rfl, he, rdD_z w', hb⟩
  · exact ⟨d, X, c, rfl, he, hr, hb⟩
/-- What the reference's sum answers: a number and a dyad, which is 0 where the number is not. -/
def raE (a b : Dy) : Int := if (mayd a && mayd b) = false then 8 else rfE (addD a b)
def raD (a b : Dy) : Dy := if (mayd a && mayd b) = false then zdy else rfM (addD a b)
def RAddP (a b : Dy) (w : World) (en : Ending) (w' : World) : Prop := ∃ (d : Dy) (X : Option Addr) (c : Nat), d = raD a b ∧ en = .returned (.tuple #[.agg #[.bool d.neg, .slice X d.ls.length c, .int .i64 d.ex], .int .i64 (raE a b)]) ∧ RdD w' w'.heap.size d.neg X d.ls.length c d.ex d ∧ Below w.heap.size w w'
theorem new_keep {W v : World} {t : TypeId} {cs : Array Value} (h : Below (W.alloc (.cells cs t)).heap.size (W.alloc (.cells cs t)) v) : Blk v W.heap.size t cs := (Blk.new W t cs).below h (Blk.new W t cs).lt
theorem new_keep2 {W v : World} {t : TypeId} {cs : Array Value} (h : Below (W.alloc (.cells cs t)).drew.heap.size (W.alloc (.cells cs t)).drew v) : Blk v W.heap.size t cs := (Blk.new W t cs).below (show Below (W.alloc (.cells cs t)).heap.size (W.alloc (.cells cs t)) v from ⟨h.os, h.tape, h.output, h.size, h.block⟩) (Blk.new W t cs).lt
theorem plusS_form {a b : Dy} {ea eb k : Nat} (ha : a.ex = (ea : Int)) (hb : b.ex = (eb : Int)) (h1 : ea ≤ k) (h2 : eb ≤ k) (hk : k ≤ 1024) : formE (plusS a.neg (val 2 (bitsIn a (k - ea))) b.neg (val 2 (bitsIn b (k - eb)))).1 (plusS a.neg (val 2 (bitsIn a (k - ea))) b.neg (val 2 (bitsIn b (k - eb)))).2 k = addD a b := by
  have e1 : val 2 (bitsIn a (k - ea)) = upD a k := by rw [bitsIn_val]; unfold upD; rw [ha]; rfl
  have e2 : val 2 (bitsIn b (k - eb)) = upD b k := by rw [bitsIn_val]; unfold upD; rw [hb]; rfl
  have x1 : a.ex.toNat ≤ k := by rw [ha]; exact h1
  have x2 : b.ex.toNat ≤ k := by rw [hb]; exact h2
  rw [e1, e2]
  unfold plusS
  by_cases hs : a.neg = b.neg
  · rw [if_pos hs]; exact add_like x1 x2 hk hs
  · rw [if_neg hs]
    have hs2 : b.neg = !a.neg := by cases h : a.neg <;> cases h' : b.neg <;> simp_all
    by_cases hv : upD b k ≤ upD a k
    · rw [if_pos hv]; exact add_ge x1 x2 hk hs2 (by omega)
    · rw [if_neg hv, hs2]; exact add_lt x1 x2 hk hs2 (by omega)
theorem rdD_far3 {w : World} {g c : Nat} {X : Option Addr} {d : Dy} {u0 u1 u2 : Value} (h : RdD w w.heap.size d.neg X d.ls.length c d.ex d) (hk : Blk w g 25 #[.bool false, .slice none 0 0, .int .i64 0]) : RdD (((w.setCell ⟨g, 0, none⟩ u0).setCell ⟨g, 1, none⟩ u1).setCell ⟨g, 2, none⟩ u2) (((w.setCell ⟨g, 0, none⟩ u0).setCell ⟨g, 1, none⟩ u1).setCell ⟨g, 2, none⟩ u2).heap.size d.neg X d.ls.length c d.ex d :=
  ⟨rfl, rfl, rfl, h.2.2.2.1, far3 h.2.2.2.2 (reads_ne32 h.2.2.2.2 hk (fun i z => zd_cells))⟩
set_option maxHeartbeats 32000000 in
theorem rdadd_any (a b : Dy) (la : ∀ x ∈ a.ls, x < LB) (lb : ∀ x ∈ b.ls, x < LB) (X Y : Option Addr) (c c2 : Nat) (w : World) (ra : RdD w w.heap.size a.neg X a.ls.length c a.ex a) (rb : RdD w w.heap.size b.neg Y b.ls.length c2 b.ex b) : Calls Tryd.prog 61 #[.agg #[.bool a.neg, .slice X a.ls.length c, .int .i64 a.ex], .agg #[.bool b.neg, .slice Y b.ls.length c2, .int .i64 b.ex]] w (RAddP a b w) := by
  obtain ⟨Qa, hQa⟩ : ∃ Q, mayd a = Q := ⟨_, rfl⟩
  obtain ⟨Qb, hQb⟩ : ∃ Q, mayd b = Q := ⟨_, rfl⟩
  obtain ⟨V, hV⟩ : ∃ V, V = ((w.alloc (.cells #[.bool a.neg, .slice X a.ls.length c, .int .i64 a.ex] 25)).alloc (.cells #[.bool b.neg, .slice Y b.ls.length c2, .int .i64 b.ex] 25)).alloc (.cells #[.bool false, .slice none 0 0, .int .i64 0] 25) := ⟨_, rfl⟩
  have kx : Blk V w.heap.size 25 #[.bool a.neg, .slice X a.ls.length c, .int .i64 a.ex] := by rw [hV]; exact ((Blk.new w _ _).alloc _).alloc _
  have ky : Blk V (w.heap.size + 1) 25 #[.bool b.neg, .slice Y b.ls.length c2, .int .i64 b.ex] := by
    have h := (Blk.new (w.alloc (.cells #[.bool a.neg, .slice X a.ls.length c, .int .i64 a.ex] 25)) 25 #[.bool b.neg, .slice Y b.ls.length c2, .int .i64 b.ex]).alloc (.cells #[.bool false, .slice none 0 0, .int .i64 0] 25)
    rw [World.size_alloc] at h
    rw [hV]; exact h
  have kr : Blk V (w.heap.size + 1 + 1) 25 #[.bool false, .slice none 0 0, .int .i64 0] := by
    have h := Blk.new ((w.alloc (.cells #[.bool a.neg, .slice X a.ls.length c, .int .i64 a.ex] 25)).alloc (.cells #[.bool b.neg, .slice Y b.ls.length c2, .int .i64 b.ex] 25)) 25 #[.bool false, .slice none 0 0, .int .i64 0]
    rw [World.size_alloc, World.size_alloc] at h
    rw [hV]; exact h
  have hB : Below w.heap.size w V := by rw [hV]; exact (((Below.refl _ w).alloc (Nat.le_refl _) _).alloc (by simp) _).alloc (by simp only [World.size_alloc]; omega) _
  have raw : ∀ w', Below V.heap.size V w' → RdD w' w'.heap.size a.neg X a.ls.length c a.ex a := fun w' h => RdD.below ra (hB.trans (h.mono hB.size)) (Nat.le_trans hB.size h.size)
  have rbw : ∀ w', Below V.heap.size V w' → RdD w' w'.heap.size b.neg Y b.ls.length c2 b.ex b := fun w' h => RdD.below rb (hB.trans (h.mono hB.size)) (Nat.le_trans hB.size h.size)
  have hma := rdmay_any a.neg X a.ls.length c a.ex a Qa hQa V (raw V (Below.refl _ _))
  have a0 := kx.cell 0
  have a1 := kx.cell 1
  have a2 := kx.cell 2
  simp only [lgA, lgZ, lgS] at a0 a1 a2
  have gkx := Lib.hid kx
  have gky := Lib.hid ky
  have gk4 := Lib.hid kr
  have gB := Lib.hid hB
  have graw := Lib.hid raw
  have grbw := Lib.hid rbw
  clear kx ky kr hB ra rb raw rbw
  go_enter Tryd.func61, Tryd.ntmps61
  go_upto_region 1 with (fail)
  rw [← hV]
  clear hV
  go_wp2_with fail
  refine hma.mono ?_
  rintro en w1 ⟨rfl, hb1⟩
  clear hma a0 a1 a2
  cases Qa with
  | false =>
    have k4 := gk4.out.below hb1 gk4.out.lt
    have hB1 := gB.out.trans (hb1.mono gB.out.size)
    have e8 : Hid ((mayd a && mayd b) = false) := Lib.hid (by rw [hQa]; rfl)
    clear hQa hQb
    have kz : Blk (((w1.setCell ⟨w.heap.size + 1 + 1, 0, none⟩ (.bool false)).setCell ⟨w.heap.size + 1 + 1, 1, none⟩ (.slice none 0 0)).setCell ⟨w.heap.size + 1 + 1, 2, none⟩ (.int .i64 0)) (w.heap.size + 1 + 1) 25 #[.bool false, .slice none 0 0, .int .i64 0] := by have h := ((k4.set_ 0 (.bool false)).set_ 1 (.slice none 0 0)).set_ 2 (.int .i64 0); simpa using h
    have hBz := ((hB1.setCell (p := ⟨w.heap.size + 1 + 1, 0, none⟩) (by show w.heap.size ≤ w.heap.size + 1 + 1; omega) (.bool false)).setCell (p := ⟨w.heap.size + 1 + 1, 1, none⟩) (by show w.heap.size ≤ w.heap.size + 1 + 1; omega) (.slice none 0 0)).setCell (p := ⟨w.heap.size + 1 + 1, 2, none⟩) (by show w.heap.size ≤ w.heap.size + 1 + 1; omega) (.int .i64 0)
    have r0 := k4.cell 0
    have r1 := k4.cell 1
    have r2 := k4.cell 2
    simp only [lgA, lgZ, lgS] at r0 r1 r2
    have f0 := k4.frozen 0
    have f1 := k4.frozen 1
    have f2 := k4.frozen 2
    go_wp2
    refine bodyPost_ret (ret_dyad rfl _ _ (w.heap.size + 1 + 1) #[.bool false, .slice none 0 0, .int .i64 0] (.int .i64 8) rfl kz (by kernel_rfl) rfl) rfl ?_
    exact ⟨zdy, none, 0, by unfold raD; rw [if_pos e8.out], by unfold raE; rw [if_pos e8.out]; rfl, rdD_z _, hBz⟩
  | true =>
    have hmb := rdmay_any b.neg Y b.ls.length c2 b.ex b Qb hQb w1 (grbw.out w1 hb1)
    have ky1 := gky.out.below hb1 gky.out.lt
    have a0 := ky1.cell 0
    have a1 := ky1.cell 1
    have a2 := ky1.cell 2
    simp only [lgA, lgZ, lgS] at a0 a1 a2
    clear ky1
    go_wp2_with fail
    refine hmb.mono ?_
    rintro en w2 ⟨rfl, hb2⟩
    clear hmb a0 a1 a2
    have hb12 := hb1.trans (hb2.mono hb1.size)
    cases Qb with
    | false =>
      have k4 := gk4.out.below hb12 gk4.out.lt
      have hB1 := gB.out.trans (hb12.mono gB.out.size)
      have e8 : Hid ((mayd a && mayd b) = false) := Lib.hid (by rw [hQa, hQb]; rfl)
      clear hQa hQb hb2 hb1
      have kz : Blk (((w2.setCell ⟨w.heap.size + 1 + 1, 0, none⟩ (.bool false)).setCell ⟨w.heap.size + 1 + 1, 1, none⟩ (.slice none 0 0)).setCell ⟨w.heap.size + 1 + 1, 2, none⟩ (.int .i64 0)) (w.heap.size + 1 + 1) 25 #[.bool false, .slice none 0 0, .int .i64 0] := by have h := ((k4.set_ 0 (.bool false)).set_ 1 (.slice none 0 0)).set_ 2 (.int .i64 0); simpa using h
      have hBz := ((hB1.setCell (p := ⟨w.heap.size + 1 + 1, 0, none⟩) (by show w.heap.size ≤ w.heap.size + 1 + 1; omega) (.bool false)).setCell (p := ⟨w.heap.size + 1 + 1, 1, none⟩) (by show w.heap.size ≤ w.heap.size + 1 + 1; omega) (.slice none 0 0)).setCell (p := ⟨w.heap.size + 1 + 1, 2, none⟩) (by show w.heap.size ≤ w.heap.size + 1 + 1; omega) (.int .i64 0)
      have r0 := k4.cell 0
      have r1 := k4.cell 1
      have r2 := k4.cell 2
      simp only [lgA, lgZ, lgS] at r0 r1 r2
      have f0 := k4.frozen 0
      have f1 := k4.frozen 1
      have f2 := k4.frozen 2
      go_wp2
      refine bodyPost_ret (ret_dyad rfl _ _ (w.heap.size + 1 + 1) #[.bool false, .slice none 0 0, .int .i64 0] (.int .i64 8) rfl kz (by kernel_rfl) rfl) rfl ?_
      exact ⟨zdy, none, 0, by unfold raD; rw [if_pos e8.out], by unfold raE; rw [if_pos e8.out]; rfl, rdD_z _, hBz⟩
    | true =>
      have e8 : Hid (¬ (mayd a && mayd b) = false) := Lib.hid (by rw [hQa, hQb]; decide)
      obtain ⟨ma, _, a3, a4, _, _⟩ := mayd_parts hQa
      obtain ⟨mb, _, b3, b4, _, _⟩ := mayd_parts hQb
      obtain ⟨ea, hea⟩ : ∃ ea : Nat, a.ex = (ea : Int) := ⟨a.ex.toNat, by omega⟩
      obtain ⟨eb, heb⟩ : ∃ eb : Nat, b.ex = (eb : Int) := ⟨b.ex.toNat, by omega⟩
      obtain ⟨k, hk⟩ : ∃ k, max ea eb = k := ⟨_, rfl⟩
      have hk1 : ea ≤ k := by omega
      have hk2 : eb ≤ k := by omega
      have hk3 : k ≤ 1024 := by omega
      obtain ⟨V2, hV2⟩ : ∃ W, W = w2 := ⟨_, rfl⟩
      subst hV2
      replace gkx := Lib.hid (gkx.out.below hb12 gkx.out.lt)
      replace gky := Lib.hid (gky.out.below hb12 gky.out.lt)
      replace gk4 := Lib.hid (gk4.out.below hb12 gk4.out.lt)
      replace gB := Lib.hid (gB.out.trans (hb12.mono gB.out.size))
      replace graw := Lib.hid (fun w' (h : Below V2.heap.size V2 w') => graw.out w' (hb12.trans (h.mono hb12.size)))
      replace grbw := Lib.hid (fun w' (h : Below V2.heap.size V2 w') => grbw.out w' (hb12.trans (h.mono hb12.size)))
      rw [hea] at gkx
      rw [heb] at gky
      clear hb12 hb1 hb2 hQa hQb
      clear V w1
      obtain ⟨V, hV⟩ : ∃ V, V = V2 := ⟨_, rfl⟩
      subst hV
      have SS : ∀ w', Below V.heap.size V w' → (w'.cell? ⟨w.heap.size, 0, none⟩ = some (.bool a.neg) ∧ w'.cell? ⟨w.heap.size, 1, none⟩ = some (.slice X a.ls.length c) ∧ w'.cell? ⟨w.heap.size, 2, none⟩ = some (.int .i64 (ea : Int)) ∧ w'.cell? ⟨w.heap.size + 1, 0, none⟩ = some (.bool b.neg) ∧ w'.cell? ⟨w.heap.size + 1, 1, none⟩ = some (.slice Y b.ls.length c2) ∧ w'.cell? ⟨w.heap.size + 1, 2, none⟩ = some (.int .i64 (eb : Int))) := by
        intro w' hw
        have k1 := gkx.out.below hw gkx.out.lt
        have k2 := gky.out.below hw gky.out.lt
        exact ⟨by rw [k1.cell]; rfl, by rw [k1.cell]; rfl, by rw [k1.cell]; rfl, by rw [k2.cell]; rfl, by rw [k2.cell]; rfl, by rw [k2.cell]; rfl⟩
      have hi1 : ∀ w', Below V.heap.size V w' → Calls Tryd.prog 90 #[.agg #[.bool a.neg, .slice X a.ls.length c, .int .i64 (ea : Int)], .int .i64 (k : Int)] w' (SgP a.neg (bitsIn a (k - ea)) w') := fun w' h => rin_any a la ma ea k hea hk1 hk3 X c w' (graw.out w' h)
      have hi2 : ∀ w', Below V.heap.size V w' → Calls Tryd.prog 90 #[.agg #[.bool b.neg, .slice Y b.ls.length c2, .int .i64 (eb : Int)], .int .i64 (k : Int)] w' (SgP b.neg (bitsIn b (k - eb)) w') := fun w' h => rin_any b lb mb eb k heb hk2 hk3 Y c2 w' (grbw.out w' h)
      obtain ⟨na, hna⟩ : ∃ na, (bitsIn a (k - ea)).length = na := ⟨_, rfl⟩
      obtain ⟨nb, hnb⟩ : ∃ nb, (bitsIn b (k - eb)).length = nb := ⟨_, rfl⟩
      have lna := bitsIn_len a la ma (j := k - ea) (by omega)
      have lnb := bitsIn_len b lb mb (j := k - eb) (by omega)
      obtain ⟨S, hS⟩ : ∃ S, (plusS a.neg (val 2 (bitsIn a (k - ea))) b.neg (val 2 (bitsIn b (k - eb)))).1 = S := ⟨_, rfl⟩
      obtain ⟨N, hN⟩ : ∃ N, (plusS a.neg (val 2 (bitsIn a (k - ea))) b.neg (val 2 (bitsIn b (k - eb)))).2 = N := ⟨_, rfl⟩
      have hfm := plusS_form (a := a) (b := b) hea heb hk1 hk2 hk3
      rw [hS, hN] at hfm
      have hNb : (dig 2 N).length ≤ 4700 := by
        have h1 := val_lt (bitsIn_lt a (k - ea))
        have h2 := val_lt (bitsIn_lt b (k - eb))
        obtain ⟨K0, hK0⟩ : ∃ K0, K0 = 2304 := ⟨_, rfl⟩
        have h3 : 2 ^ (bitsIn a (k - ea)).length ≤ 2 ^ K0 := Nat.pow_le_pow_right (by decide) (by omega)
        have h4 : 2 ^ (bitsIn b (k - eb)).length ≤ 2 ^ K0 := Nat.pow_le_pow_right (by decide) (by omega)
        refine Nat.le_trans (dig_len_le (k := K0 + 1) (by decide) ?_) (by omega)
        have h5 : N ≤ val 2 (bitsIn a (k - ea)) + val 2 (bitsIn b (k - eb)) := by
          rw [← hN]
          unfold plusS
          split
          · exact Nat.le_refl _
          · split <;> simp only <;> omega
        rw [Nat.pow_succ]
        omega
      have hpl : ∀ w' X1 c1 X5 c5, Reads w' w'.heap.size 1 X1 na (ints .u8 (bitsIn a (k - ea))) → Reads w' w'.heap.size 1 X5 nb (ints .u8 (bitsIn b (k - eb))) → Calls Tryd.prog 89 #[.agg #[.bool a.neg, .slice X1 na c1], .agg #[.bool b.neg, .slice X5 nb c5]] w' (SgP S (dig 2 N) w') := fun w' X1 c1 X5 c5 h1 h2 => by
        have h := rplus_any a.neg b.neg X1 X5 na nb c1 c5 (bitsIn a (k - ea)) (bitsIn b (k - eb)) hna hnb (by omega) (by omega) (bitsIn_lt _ _) (bitsIn_lt _ _) (bitsIn_canon _ _) (bitsIn_canon _ _) w' h1 h2
        rw [hS, hN] at h
        exact h
      obtain ⟨nn, hnn⟩ : ∃ nn, (dig 2 N).length = nn := ⟨_, rfl⟩
      have hfo : ∀ w' X6 c6, Reads w' w'.heap.size 1 X6 nn (ints .u8 (dig 2 N)) → nn ≤ c6 → Calls Tryd.prog 88 #[.agg #[.bool S, .slice X6 nn c6], .int .i64 (k : Int)] w' (fun en w'' => ∃ (d : Dy) (X : Option Addr) (c : Nat), d = rfM (addD a b) ∧ en = .returned (.tuple #[.agg #[.bool d.neg, .slice X d.ls.length c, .int .i64 d.ex], .int .i64 (rfE (addD a b))]) ∧ RdD w'' w''.heap.size d.neg X d.ls.length c d.ex d ∧ Below w'.heap.size w' w'') := fun w' X6 c6 h1 h2 => by
        refine (rformed_any S X6 nn c6 k N (dig 2 N) hnn (by omega) h2 (dig_lt (by decide) N) (val_dig (by decide) N) hk3 w' h1).mono fun en w'' hp => ?_
        rw [hfm] at hp
        exact rfrm_one hp
      unfold SgP at hi1 hi2 hpl
      rw [hna] at hi1
      rw [hnb] at hi2
      rw [hnn] at hpl
      have hmx : max (ea : Int) (eb : Int) = (k : Int) := by omega
      have hmx2 : (if ea < eb then (eb : Int) else (ea : Int)) = (k : Int) := by split <;> omega
      obtain ⟨b0, b1, b2, b3', b4', b5⟩ := SS V (Below.refl _ _)
      clear hna hnb hnn hNb lna lnb hfm hS hN hea heb hk hk1 hk2 hk3 la lb ma mb a3 a4 b3 b4 graw grbw gkx gky
      go_upto_region 4 with (fail)
      clear b0 b1 b2 b3' b4' b5 hmx hmx2
      go_cut [7, 8] (fun s7 s8 W3 => ∃ (G : Nat) (d : Dy) (X8 : Option Addr) (c8 : Nat), d = rfM (addD a b) ∧ s7 = .pointer (some ⟨G, 0, none⟩) ∧ s8 = .int .i64 (rfE (addD a b)) ∧ Blk W3 G 25 #[.bool d.neg, .slice X8 d.ls.length c8, .int .i64 d.ex] ∧ RdD W3 W3.heap.size d.neg X8 d.ls.length c8 d.ex d ∧ Below V.heap.size V W3)
      case first =>
        refine wp_region_noPanic ?_
        refine wp_region_held_drew (S := fun w' => w'.cell? ⟨w.heap.size, 0, none⟩ = some (.bool a.neg) ∧ w'.cell? ⟨w.heap.size, 1, none⟩ = some (.slice X a.ls.length c) ∧ w'.cell? ⟨w.heap.size, 2, none⟩ = some (.int .i64 (ea : Int)) ∧ w'.cell? ⟨w.heap.size + 1, 0, none⟩ = some (.bool b.neg) ∧ w'.cell? ⟨w.heap.size + 1, 1, none⟩ = some (.slice Y b.ls.length c2) ∧ w'.cell? ⟨w.heap.size + 1, 2, none⟩ = some (.int .i64 (eb : Int))) (by kernel_rfl) (SS _ bls) (fun hHeld => ?_)
        refine tkY 0 (h := ?_)
        (try simp only [Act.put, lsA, lsZ, lsS])
        refine tkY 1 (h := ?_)
        (try simp only [Act.put, lsA, lsZ, lsS])
        refine tkY 3 (h := ?_)
        (try simp only [Act.put, lsA, lsZ, lsS])
        refine tkY 4 (h := ?_)
        (try simp only [Act.put, lsA, lsZ, lsS])
        refine tkY 7 (h := ?_)
        (try simp only [Act.put, lsA, lsZ, lsS])
        refine wpAnyH_ready (rs := [2, 12]) (by kernel_rfl) (by simp) ?_
        refine AllReadyH.cons rfl (fun K hK => ?_) (AllReadyH.cons rfl (fun K hK => ?_) AllReadyH.nil)
        · go_simp
          with_reducible refine (hi1 _ bls).mono ?_
          rintro en v2 ⟨X1, c1, rfl, hc1, hr1, hv2⟩
          have hv22 : Below V.heap.size V v2 := Below.trans bls (hv2.mono (by first | exact Nat.le_refl _ | (simp only [World.size_alloc, World.size_drew, World.size_setCell]; omega) | omega))
          have sv2 : V.heap.size ≤ v2.heap.size := hv22.size
          have gr1 := Lib.hid hr1
          clear hr1 hc1
          refine hK.out _ _ (SS _ bls) (fun hHeld => ?_)
          clear hK K
          (try simp only [Act.put, lsA, lsZ, lsS])
          refine wpAnyH_ready (rs := [5, 12]) (by kernel_rfl) (by simp) ?_
          refine AllReadyH.cons rfl (fun K hK => ?_) (AllReadyH.cons rfl (fun K hK => ?_) AllReadyH.nil)
          · go_simp
            with_reducible refine (hi2 _ bls).mono ?_
            rintro en v5 ⟨X5, c5, rfl, hc5, hr5, hv5⟩
            have hv52 : Below V.heap.size V v5 := Below.trans bls (hv5.mono (by first | exact Nat.le_refl _ | (simp only [World.size_alloc, World.size_drew, World.size_setCell]; omega) | omega))
            have sv5 : V.heap.size ≤ v5.heap.size := hv52.size
            have gr5 := Lib.hid hr5
            have hq5 : Below v2.heap.size v2 v5 := Below.trans bls (hv5.mono (by first | exact Nat.le_refl _ | (simp only [World.size_alloc, World.size_drew, World.size_setCell]; omega) | omega))
            replace gr1 := Lib.hid ((gr1.out.below hq5).more hq5.size)
            clear hr5 hc5 hq5
            refine hK.out _ _ (SS _ bls) (fun hHeld => ?_)
            clear hK K
            (try simp only [Act.put, lsA, lsZ, lsS])
            refine wpAnyH_ready (rs := [6, 12]) (by kernel_rfl) (by simp) ?_
            refine AllReadyH.cons rfl (fun K hK => ?_) (AllReadyH.cons rfl (fun K hK => ?_) AllReadyH.nil)
            · go_simp
              with_reducible refine (hpl _ X1 c1 X5 c5 gr1.out gr5.out).mono ?_
              rintro en v6 ⟨X6, c6, rfl, hc6, hr6, hv6⟩
              have hv62 : Below V.heap.size V v6 := Below.trans bls (hv6.mono (by first | exact Nat.le_refl _ | (simp only [World.size_alloc, World.size_drew, World.size_setCell]; omega) | omega))
              have sv6 : V.heap.size ≤ v6.heap.size := hv62.size
              have gr6 := Lib.hid hr6
              have gc6 := Lib.hid hc6
              clear hr6 hc6
              refine hK.out _ _ (SS _ bls) (fun hHeld => ?_)
              clear hK K
              (try simp only [Act.put, lsA, lsZ, lsS])
              refine wpAnyH_ready (rs := [8, 12]) (by kernel_rfl) (by simp) ?_
              refine AllReadyH.cons rfl (fun K hK => ?_) (AllReadyH.cons rfl (fun K hK => ?_) AllReadyH.nil)
              · go_simp
                with_reducible refine (hfo _ X6 c6 gr6.out gc6.out).mono ?_
                rintro en v8 ⟨d, X8, c8, hd8, rfl, hr8, hv8⟩
                have hv82 : Below V.heap.size V v8 := Below.trans bls (hv8.mono (by first | exact Nat.le_refl _ | (simp only [World.size_alloc, World.size_drew, World.size_setCell]; omega) | omega))
                have sv8 : V.heap.size ≤ v8.heap.size := hv82.size
                have gr8 := Lib.hid hr8
                have gd8 := Lib.hid hd8
                clear hr8 hd8
                refine hK.out _ _ (SS _ bls) (fun hHeld => ?_)
                clear hK K
                (try simp only [Act.put, lsA, lsZ, lsS])
                refine tkY 9 (h := ?_)
                (try simp only [Act.put, lsA, lsZ, lsS])
                refine tkY 10 (h := ?_)
                (try simp only [Act.put, lsA, lsZ, lsS])
                refine tkY 11 (h := ?_)
                (try simp only [Act.put, lsA, lsZ, lsS])
                refine tkR 12 (h := fun K hK => ?_)
                go_simp
                refine hK.out _ _ (SS _ bls) (fun hHeld => ?_)
                clear hK K
                (try simp only [Act.put, lsA, lsZ, lsS])
                refine tkR 13 (h := fun K hK => ?_)
                go_simp
                refine hK.out _ _ (SS _ bls) (fun hHeld => ?_)
                clear hK K
                (try simp only [Act.put, lsA, lsZ, lsS])
                refine tkY 14 (h := ?_)
                (try simp only [Act.put, lsA, lsZ, lsS])
                refine wpAnyH_done (by kernel_rfl) ?_ _
                refine NoPanic.normal ?_
                (try go_wp2_with fail)
                go_meet
                exact ⟨v8.heap.size, d, X8, c8, gd8.out, rfl, rfl, Blk.new _ _ _, RdD.below gr8.out ((Below.refl _ _).alloc (Nat.le_refl _) _) ((Below.refl _ _).alloc (Nat.le_refl _) _).size, bls⟩
              · go_simp
                refine hK.out _ _ (SS _ bls) (fun hHeld => ?_)
                clear hK K
                (try simp only [Act.put, lsA, lsZ, lsS])
                refine tkR 8 (h := fun K hK => ?_)
                go_simp
                with_reducible refine (hfo _ X6 c6 ((gr6.out.below ((Below.refl _ _).alloc (Nat.le_refl _) _)).more ((Below.refl _ _).alloc (Nat.le_refl _) _).size) gc6.out).mono ?_
                rintro en v8 ⟨d, X8, c8, hd8, rfl, hr8, hv8⟩
                have hv82 : Below V.heap.size V v8 := Below.trans bls (hv8.mono (by first | exact Nat.le_refl _ | (simp only [World.size_alloc, World.size_drew, World.size_setCell]; omega) | omega))
                have sv8 : V.heap.size ≤ v8.heap.size := hv82.size
                have gr8 := Lib.hid hr8
                have gd8 := Lib.hid hd8
                clear hr8 hd8
                first | have k6 := new_keep hv8 | have k6 := new_keep2 hv8
                have gk6 := Lib.hid k6
                have z0 := k6.cell 0
                have z1 := k6.cell 1
                have z2 := k6.cell 2
                simp only [lgA, lgZ, lgS] at z0 z1 z2
                have f0 := k6.frozen 0
                have f1 := k6.frozen 1
                have f2 := k6.frozen 2
                clear k6
                refine hK.out _ _ (SS _ bls) (fun hHeld => ?_)
                clear hK K
                (try simp only [Act.put, lsA, lsZ, lsS])
                refine tkY 9 (h := ?_)
                (try simp only [Act.put, lsA, lsZ, lsS])
                refine tkY 10 (h := ?_)
                (try simp only [Act.put, lsA, lsZ, lsS])
                refine tkY 11 (h := ?_)
                (try simp only [Act.put, lsA, lsZ, lsS])
                refine tkR 13 (h := fun K hK => ?_)
                go_simp
                refine hK.out _ _ (SS _ bls) (fun hHeld => ?_)
                clear hK K
                (try simp only [Act.put, lsA, lsZ, lsS])
                refine tkY 14 (h := ?_)
                (try simp only [Act.put, lsA, lsZ, lsS])
                refine wpAnyH_done (by kernel_rfl) ?_ _
                refine NoPanic.normal ?_
                (try go_wp2_with fail)
                go_meet
                have h9 := ((gk6.out.set_ 0 (.bool d.neg)).set_ 1 (.slice X8 d.ls.length c8)).set_ 2 (.int .i64 d.ex)
                exact ⟨v6.heap.size, d, X8, c8, gd8.out, rfl, rfl, by simpa using h9, rdD_far3 gr8.out gk6.out, bls⟩
            · go_simp
              refine hK.out _ _ (SS _ bls) (fun hHeld => ?_)
              clear hK K
              (try simp only [Act.put, lsA, lsZ, lsS])
              refine tkR 6 (h := fun K hK => ?_)
              go_simp
              with_reducible refine (hpl _ X1 c1 X5 c5 ((gr1.out.below ((Below.refl _ _).alloc (Nat.le_refl _) _)).more ((Below.refl _ _).alloc (Nat.le_refl _) _).size) ((gr5.out.below ((Below.refl _ _).alloc (Nat.le_refl _) _)).more ((Below.refl _ _).alloc (Nat.le_refl _) _).size)).mono ?_
              rintro en v6 ⟨X6, c6, rfl, hc6, hr6, hv6⟩
              have hv62 : Below V.heap.size V v6 := Below.trans bls (hv6.mono (by first | exact Nat.le_refl _ | (simp only [World.size_alloc, World.size_drew, World.size_setCell]; omega) | omega))
              have sv6 : V.heap.size ≤ v6.heap.size := hv62.size
              have gr6 := Lib.hid hr6
              have gc6 := Lib.hid hc6
              clear hr6 hc6
              first | have k6 := new_keep hv6 | have k6 := new_keep2 hv6
              have gk6 := Lib.hid k6
              clear k6
              refine hK.out _ _ (SS _ bls) (fun hHeld => ?_)
              clear hK K
              (try simp only [Act.put, lsA, lsZ, lsS])
              refine tkR 8 (h := fun K hK => ?_)
              go_simp
              with_reducible refine (hfo _ X6 c6 gr6.out gc6.out).mono ?_
              rintro en v8 ⟨d, X8, c8, hd8, rfl, hr8, hv8⟩
              have hv82 : Below V.heap.size V v8 := Below.trans bls (hv8.mono (by first | exact Nat.le_refl _ | (simp only [World.size_alloc, World.size_drew, World.size_setCell]; omega) | omega))
              have sv8 : V.heap.size ≤ v8.heap.size := hv82.size
              have gr8 := Lib.hid hr8
              have gd8 := Lib.hid hd8
              clear hr8 hd8
              have k6 := gk6.out.below hv8 gk6.out.lt
              replace gk6 := Lib.hid k6
              have z0 := k6.cell 0
              have z1 := k6.cell 1
              have z2 := k6.cell 2
              simp only [lgA, lgZ, lgS] at z0 z1 z2
              have f0 := k6.frozen 0
              have f1 := k6.frozen 1
              have f2 := k6.frozen 2
              clear k6
              refine hK.out _ _ (SS _ bls) (fun hHeld => ?_)
              clear hK K
              (try simp only [Act.put, lsA, lsZ, lsS])
              refine tkY 9 (h := ?_)
              (try simp only [Act.put, lsA, lsZ, lsS])
              refine tkY 10 (h := ?_)
              (try simp only [Act.put, lsA, lsZ, lsS])
              refine tkY 11 (h := ?_)
              (try simp only [Act.put, lsA, lsZ, lsS])
              refine tkR 13 (h := fun K hK => ?_)
              go_simp
              refine hK.out _ _ (SS _ bls) (fun hHeld => ?_)
              clear hK K
              (try simp only [Act.put, lsA, lsZ, lsS])
              refine tkY 14 (h := ?_)
              (try simp only [Act.put, lsA, lsZ, lsS])
              refine wpAnyH_done (by kernel_rfl) ?_ _
              refine NoPanic.normal ?_
              (try go_wp2_with fail)
              go_meet
              have h9 := ((gk6.out.set_ 0 (.bool d.neg)).set_ 1 (.slice X8 d.ls.length c8)).set_ 2 (.int .i64 d.ex)
              exact ⟨v5.heap.size, d, X8, c8, gd8.out, rfl, rfl, by simpa using h9, rdD_far3 gr8.out gk6.out, bls⟩
          · go_simp
            refine hK.out _ _ (SS _ bls) (fun hHeld => ?_)
            clear hK K
            (try simp only [Act.put, lsA, lsZ, lsS])
            refine tkR 5 (h := fun K hK => ?_)
            go_simp
            with_reducible refine (hi2 _ bls).mono ?_
            rintro en v5 ⟨X5, c5, rfl, hc5, hr5, hv5⟩
            have hv52 : Below V.heap.size V v5 := Below.trans bls (hv5.mono (by first | exact Nat.le_refl _ | (simp only [World.size_alloc, World.size_drew, World.size_setCell]; omega) | omega))
            have sv5 : V.heap.size ≤ v5.heap.size := hv52.size
            have gr5 := Lib.hid hr5
            have hq5 : Below v2.heap.size v2 v5 := Below.trans bls (hv5.mono (by first | exact Nat.le_refl _ | (simp only [World.size_alloc, World.size_drew, World.size_setCell]; omega) | omega))
            replace gr1 := Lib.hid ((gr1.out.below hq5).more hq5.size)
            clear hr5 hc5 hq5
            first | have k6 := new_keep hv5 | have k6 := new_keep2 hv5
            have gk6 := Lib.hid k6
            clear k6
            refine hK.out _ _ (SS _ bls) (fun hHeld => ?_)
            clear hK K
            (try simp only [Act.put, lsA, lsZ, lsS])
            refine tkR 6 (h := fun K hK => ?_)
            go_simp
            with_reducible refine (hpl _ X1 c1 X5 c5 gr1.out gr5.out).mono ?_
            rintro en v6 ⟨X6, c6, rfl, hc6, hr6, hv6⟩
            have hv62 : Below V.heap.size V v6 := Below.trans bls (hv6.mono (by first | exact Nat.le_refl _ | (simp only [World.size_alloc, World.size_drew, World.size_setCell]; omega) | omega))
            have sv6 : V.heap.size ≤ v6.heap.size := hv62.size
            have gr6 := Lib.hid hr6
            have gc6 := Lib.hid hc6
            clear hr6 hc6
            have k6 := gk6.out.below hv6 gk6.out.lt
            replace gk6 := Lib.hid k6
            clear k6
            refine hK.out _ _ (SS _ bls) (fun hHeld => ?_)
            clear hK K
            (try simp only [Act.put, lsA, lsZ, lsS])
            refine tkR 8 (h := fun K hK => ?_)
            go_simp
            with_reducible refine (hfo _ X6 c6 gr6.out gc6.out).mono ?_
            rintro en v8 ⟨d, X8, c8, hd8, rfl, hr8, hv8⟩
            have hv82 : Below V.heap.size V v8 := Below.trans bls (hv8.mono (by first | exact Nat.le_refl _ | (simp only [World.size_alloc, World.size_drew, World.size_setCell]; omega) | omega))
            have sv8 : V.heap.size ≤ v8.heap.size := hv82.size
            have gr8 := Lib.hid hr8
            have gd8 := Lib.hid hd8
            clear hr8 hd8
            have k6 := gk6.out.below hv8 gk6.out.lt
            replace gk6 := Lib.hid k6
            have z0 := k6.cell 0
            have z1 := k6.cell 1
            have z2 := k6.cell 2
            simp only [lgA, lgZ, lgS] at z0 z1 z2
            have f0 := k6.frozen 0
            have f1 := k6.frozen 1
            have f2 := k6.frozen 2
            clear k6
            refine hK.out _ _ (SS _ bls) (fun hHeld => ?_)
            clear hK K
            (try simp only [Act.put, lsA, lsZ, lsS])
            refine tkY 9 (h := ?_)
            (try simp only [Act.put, lsA, lsZ, lsS])
            refine tkY 10 (h := ?_)
            (try simp only [Act.put, lsA, lsZ, lsS])
            refine tkY 11 (h := ?_)
            (try simp only [Act.put, lsA, lsZ, lsS])
            refine tkR 13 (h := fun K hK => ?_)
            go_simp
            refine hK.out _ _ (SS _ bls) (fun hHeld => ?_)
            clear hK K
            (try simp only [Act.put, lsA, lsZ, lsS])
            refine tkY 14 (h := ?_)
            (try simp only [Act.put, lsA, lsZ, lsS])
            refine wpAnyH_done (by kernel_rfl) ?_ _
            refine NoPanic.normal ?_
            (try go_wp2_with fail)
            go_meet
            have h9 := ((gk6.out.set_ 0 (.bool d.neg)).set_ 1 (.slice X8 d.ls.length c8)).set_ 2 (.int .i64 d.ex)
            exact ⟨v2.heap.size, d, X8, c8, gd8.out, rfl, rfl, by simpa using h9, rdD_far3 gr8.out gk6.out, bls⟩
        · go_simp
          refine hK.out _ _ (SS _ bls) (fun hHeld => ?_)
          clear hK K
          (try simp only [Act.put, lsA, lsZ, lsS])
          refine tkR 2 (h := fun K hK => ?_)
          go_simp
          with_reducible refine (hi1 _ bls).mono ?_
          rintro en v2 ⟨X1, c1, rfl, hc1, hr1, hv2⟩
          have hv22 : Below V.heap.size V v2 := Below.trans bls (hv2.mono (by first | exact Nat.le_refl _ | (simp only [World.size_alloc, World.size_drew, World.size_setCell]; omega) | omega))
          have sv2 : V.heap.size ≤ v2.heap.size := hv22.size
          have gr1 := Lib.hid hr1
          clear hr1 hc1
          first | have k6 := new_keep hv2 | have k6 := new_keep2 hv2
          have gk6 := Lib.hid k6
          clear k6
          refine hK.out _ _ (SS _ bls) (fun hHeld => ?_)
          clear hK K
          (try simp only [Act.put, lsA, lsZ, lsS])
          refine tkR 5 (h := fun K hK => ?_)
          go_simp
          with_reducible refine (hi2 _ bls).mono ?_
          rintro en v5 ⟨X5, c5, rfl, hc5, hr5, hv5⟩
          have hv52 : Below V.heap.size V v5 := Below.trans bls (hv5.mono (by first | exact Nat.le_refl _ | (simp only [World.size_alloc, World.size_drew, World.size_setCell]; omega) | omega))
          have sv5 : V.heap.size ≤ v5.heap.size := hv52.size
          have gr5 := Lib.hid hr5
          have hq5 : Below v2.heap.size v2 v5 := Below.trans bls (hv5.mono (by first | exact Nat.le_refl _ | (simp only [World.size_alloc, World.size_drew, World.size_setCell]; omega) | omega))
          replace gr1 := Lib.hid ((gr1.out.below hq5).more hq5.size)
          clear hr5 hc5 hq5
          have k6 := gk6.out.below hv5 gk6.out.lt
          replace gk6 := Lib.hid k6
          clear k6
          refine hK.out _ _ (SS _ bls) (fun hHeld => ?_)
          clear hK K
          (try simp only [Act.put, lsA, lsZ, lsS])
          refine tkR 6 (h := fun K hK => ?_)
          go_simp
          with_reducible refine (hpl _ X1 c1 X5 c5 gr1.out gr5.out).mono ?_
          rintro en v6 ⟨X6, c6, rfl, hc6, hr6, hv6⟩
          have hv62 : Below V.heap.size V v6 := Below.trans bls (hv6.mono (by first | exact Nat.le_refl _ | (simp only [World.size_alloc, World.size_drew, World.size_setCell]; omega) | omega))
          have sv6 : V.heap.size ≤ v6.heap.size := hv62.size
          have gr6 := Lib.hid hr6
          have gc6 := Lib.hid hc6
          clear hr6 hc6
          have k6 := gk6.out.below hv6 gk6.out.lt
          replace gk6 := Lib.hid k6
          clear k6
          refine hK.out _ _ (SS _ bls) (fun hHeld => ?_)
          clear hK K
          (try simp only [Act.put, lsA, lsZ, lsS])
          refine tkR 8 (h := fun K hK => ?_)
          go_simp
          with_reducible refine (hfo _ X6 c6 gr6.out gc6.out).mono ?_
          rintro en v8 ⟨d, X8, c8, hd8, rfl, hr8, hv8⟩
          have hv82 : Below V.heap.size V v8 := Below.trans bls (hv8.mono (by first | exact Nat.le_refl _ | (simp only [World.size_alloc, World.size_drew, World.size_setCell]; omega) | omega))
          have sv8 : V.heap.size ≤ v8.heap.size := hv82.size
          have gr8 := Lib.hid hr8
          have gd8 := Lib.hid hd8
          clear hr8 hd8
          have k6 := gk6.out.below hv8 gk6.out.lt
          replace gk6 := Lib.hid k6
          have z0 := k6.cell 0
          have z1 := k6.cell 1
          have z2 := k6.cell 2
          simp only [lgA, lgZ, lgS] at z0 z1 z2
          have f0 := k6.frozen 0
          have f1 := k6.frozen 1
          have f2 := k6.frozen 2
          clear k6
          refine hK.out _ _ (SS _ bls) (fun hHeld => ?_)
          clear hK K
          (try simp only [Act.put, lsA, lsZ, lsS])
          refine tkY 9 (h := ?_)
          (try simp only [Act.put, lsA, lsZ, lsS])
          refine tkY 10 (h := ?_)
          (try simp only [Act.put, lsA, lsZ, lsS])
          refine tkY 11 (h := ?_)
          (try simp only [Act.put, lsA, lsZ, lsS])
          refine tkR 13 (h := fun K hK => ?_)
          go_simp
          refine hK.out _ _ (SS _ bls) (fun hHeld => ?_)
          clear hK K
          (try simp only [Act.put, lsA, lsZ, lsS])
          refine tkY 14 (h := ?_)
          (try simp only [Act.put, lsA, lsZ, lsS])
          refine wpAnyH_done (by kernel_rfl) ?_ _
          refine NoPanic.normal ?_
          (try go_wp2_with fail)
          go_meet
          have h9 := ((gk6.out.set_ 0 (.bool d.neg)).set_ 1 (.slice X8 d.ls.length c8)).set_ 2 (.int .i64 d.ex)
          exact ⟨V.heap.size, d, X8, c8, gd8.out, rfl, rfl, by simpa using h9, rdD_far3 gr8.out gk6.out, bls⟩
      case rest =>
      obtain ⟨G, d, X8, c8, hd, rfl, rfl, k9, hr9, hBV3⟩ := hcut
      have k4 := gk4.out.below hBV3 gk4.out.lt
      have hB3 := gB.out.trans (hBV3.mono gB.out.size)
      have gd := Lib.hid hd
      have gr9 := Lib.hid hr9
      have q0 := k9.cell 0
      have q1 := k9.cell 1
      have q2 := k9.cell 2
      simp only [lgA, lgZ, lgS] at q0 q1 q2
      clear hd hr9 k9 hBV3 hi1 hi2 hpl hfo SS
      have kz : Blk (((wc.setCell ⟨w.heap.size + 1 + 1, 0, none⟩ (.bool d.neg)).setCell ⟨w.heap.size + 1 + 1, 1, none⟩ (.slice X8 d.ls.length c8)).setCell ⟨w.heap.size + 1 + 1, 2, none⟩ (.int .i64 d.ex)) (w.heap.size + 1 + 1) 25 #[.bool d.neg, .slice X8 d.ls.length c8, .int .i64 d.ex] := by have h := ((k4.set_ 0 (.bool d.neg)).set_ 1 (.slice X8 d.ls.length c8)).set_ 2 (.int .i64 d.ex); simpa using h
      have hBz := ((hB3.setCell (p := ⟨w.heap.size + 1 + 1, 0, none⟩) (by show w.heap.size ≤ w.heap.size + 1 + 1; omega) (.bool d.neg)).setCell (p := ⟨w.heap.size + 1 + 1, 1, none⟩) (by show w.heap.size ≤ w.heap.size + 1 + 1; omega) (.slice X8 d.ls.length c8)).setCell (p := ⟨w.heap.size + 1 + 1, 2, none⟩) (by show w.heap.size ≤ w.heap.size + 1 + 1; omega) (.int .i64 d.ex)
      have r0 := k4.cell 0
      have r1 := k4.cell 1
      have r2 := k4.cell 2
      simp only [lgA, lgZ, lgS] at r0 r1 r2
      have f0 := k4.frozen 0
      have f1 := k4.frozen 1
      have f2 := k4.frozen 2
      go_wp2
      refine bodyPost_ret (ret_dyad rfl _ _ (w.heap.size + 1 + 1) #[.bool d.neg, .slice X8 d.ls.length c8, .int .i64 d.ex] (.int .i64 (rfE (addD a b))) rfl kz (by kernel_rfl) rfl) rfl ?_
      exact ⟨d, X8, c8, by unfold raD; rw [if_neg e8.out]; exact gd.out, by unfold raE; rw [if_neg e8.out], rdD_far3 gr9.out k4, hBz⟩
end Go.Proofs.YtdmjdpaehnhdoaaDoor
