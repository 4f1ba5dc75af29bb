/- Flight: the reference's Launched -/
import Derived.Test.YtdmjdpaehnhdoaaLR
import Derived.Test.YtdmjdpaehnhdoaaKit9
namespace Go.Proofs.Ytdmjdpaehnhdoaa
open Go.ChangeShapes Go.WideShapes Go.ChangeAt Go.RowKit
set_option linter.unusedSimpArgs false
set_option linter.unusedVariables false
theorem row15_one (o : EO) : ∀ u ∈ row15 o, u.oneCell' = true := fun u hu => flat15_one [o] u (by simpa using hu)
/-- A load among the others, ahead of the first one of a greater Number. -/
def insL (x : En) : List En → List En
  | [] => [x]
  | y :: r => if x.nu < y.nu then x :: y :: r else y :: insL x r
theorem insL_app {x : En} : ∀ (a b : List En), (∃ y ∈ a, x.nu < y.nu) → insL x (a ++ b) = insL x a ++ b
  | [], b, h => by obtain ⟨y, hy, _⟩ := h; cases hy
  | z :: a, b, h => by
    show (if x.nu < z.nu then x :: z :: (a ++ b) else z :: insL x (a ++ b)) = (if x.nu < z.nu then x :: z :: a else z :: insL x a) ++ b
    by_cases hz : x.nu < z.nu
    · rw [if_pos hz, if_pos hz]; rfl
    · rw [if_neg hz, if_neg hz, insL_app a b]
      · rfl
      · obtain ⟨y, hy, h⟩ := h
        rcases List.mem_cons.1 hy with rfl | hy
        · exact absurd h hz
        · exact ⟨y, hy, h⟩
theorem insL_none {x : En} : ∀ (a b : List En), (∀ y ∈ a, ¬ x.nu < y.nu) → insL x (a ++ b) = a ++ insL x b
  | [], b, h => rfl
  | z :: a, b, h => by
    show (if x.nu < z.nu then x :: z :: (a ++ b) else z :: insL x (a ++ b)) = z :: (a ++ insL x b)
    rw [if_neg (h z (by simp)), insL_none a b (fun y hy => h y (by simp [hy]))]
theorem insL_sm {x : En} (hx : smM x.give) : ∀ {l : List En}, (∀ y ∈ l, smM y.give) → ∀ y ∈ insL x l, smM y.give
  | [], _, y, hy => by
    have : y = x := by simpa [insL] using hy
    subst this
    exact hx
  | z :: r, h, y, hy => by
    unfold insL at hy
    split at hy
    · rcases List.mem_cons.1 hy with rfl | hy
      · exact hx
      · exact h y hy
    · rcases List.mem_cons.1 hy with rfl | hy
      · exact h _ (by simp)
      · exact insL_sm hx (fun y hy => h y (by simp [hy])) y hy
/-- Under way: D, whether it is laid. -/
def LnI (x : En) (l : List En) (k : Nat) (D : Bool) (os : List EO) : Prop := (D = true → os.map (·.x) = insL x (l.take k) ∧ ∃ y ∈ l.take k, x.nu < y.nu) ∧ (D = false → os.map (·.x) = l.take k ∧ ∀ y ∈ l.take k, ¬ x.nu < y.nu)
theorem LnI.on {x y : En} {l : List En} {k : Nat} {os : List EO} {o : EO} (h : LnI x l k true os) (hy : l[k]? = some y) (ho : o.x = y) : LnI x l (k + 1) true (os ++ [o]) := by
  obtain ⟨h1, z, hz, hzx⟩ := h.1 rfl
  refine ⟨fun _ => ⟨?_, z, ?_, hzx⟩, fun h => by cases h⟩
  · rw [List.map_append, h1, List.take_add_one, hy, Option.toList_some, insL_app _ _ ⟨z, hz, hzx⟩, List.map_cons, ho, List.map_nil]
  · rw [List.take_add_one]
    exact List.mem_append_left _ hz
theorem LnI.lay {x y : En} {l : List En} {k : Nat} {os : List EO} {o ox : EO} (h : LnI x l k false os) (hy : l[k]? = some y) (ho : o.x = y) (hox : ox.x = x) (hlt : x.nu < y.nu) : LnI x l (k + 1) true ((os ++ [ox]) ++ [o]) := by
  obtain ⟨h1, h2⟩ := h.2 rfl
  refine ⟨fun _ => ⟨?_, y, ?_, hlt⟩, fun h => by cases h⟩
  · rw [List.map_append, List.map_append, h1, List.take_add_one, hy, Option.toList_some, insL_none _ _ h2]
    simp [insL, if_pos hlt, ho, hox]
  · rw [List.take_add_one, hy]
    simp
theorem LnI.skip {x y : En} {l : List En} {k : Nat} {os : List EO} {o : EO} (h : LnI x l k false os) (hy : l[k]? = some y) (ho : o.x = y) (hlt : ¬ x.nu < y.nu) : LnI x l (k + 1) false (os ++ [o]) := by
  obtain ⟨h1, h2⟩ := h.2 rfl
  refine ⟨(fun h => by cases h), fun _ => ⟨?_, ?_⟩⟩
  · rw [List.map_append, h1, List.take_add_one, hy, Option.toList_some, List.map_cons, ho, List.map_nil]
  · rw [List.take_add_one, hy]
    intro z hz
    rcases List.mem_append.1 hz with h | h
    · exact h2 z h
    · rw [Option.toList_some, List.mem_singleton] at h
      subst h
      exact hlt
set_option maxRecDepth 100000 in
set_option maxHeartbeats 16000000 in
theorem rlaunched_any (A : Option Addr) (n c : Nat) (l : List En) (hn : n ≤ 100) (hs : ∀ x ∈ l, smM x.give) (xnu xep xcp : Int) (bg0 : Bool) (bX0 : Option Addr) (bn0 bc0 : Nat) (be0 : Int) (bg1 : Bool) (bX1 : Option Addr) (bn1 bc1 : Nat) (be1 : Int) (bg2 : Bool) (bX2 : Option Addr) (bn2 bc2 : Nat) (be2 : Int) (bg3 : Bool) (bX3 : Option Addr) (bn3 bc3 : Nat) (be3 : Int) (mx : Ms) (hsx : smM mx) (w : World) (h : Ens w w.heap.size A n l) (hx : RdM w w.heap.size bg0 bX0 bn0 bc0 be0 bg1 bX1 bn1 bc1 be1 bg2 bX2 bn2 bc2 be2 bg3 bX3 bn3 bc3 be3 mx) :
    Calls Try.prog 39 #[.slice A n c, .agg #[.int .i64 xnu, .int .i64 xep, .int .i64 xcp, .bool bg0, .slice bX0 bn0 bc0, .int .i64 be0, .bool bg1, .slice bX1 bn1 bc1, .int .i64 be1, .bool bg2, .slice bX2 bn2 bc2, .int .i64 be2, .bool bg3, .slice bX3 bn3 bc3, .int .i64 be3]] w fun en w' => ∃ Ao co, en = .returned (.slice Ao (n + 1) co) ∧ TwE w (n + 1) (insL ⟨xnu, xep, xcp, mx⟩ l) Ao co w' := by
  obtain ⟨i0, hi0, hz0, hz1, hz2⟩ := info_parts infoE
  obtain ⟨⟨rfl, rfl, rfl, bh0, br0⟩, ⟨rfl, rfl, rfl, bh1, br1⟩, ⟨rfl, rfl, rfl, bh2, br2⟩, ⟨rfl, rfl, rfl, bh3, br3⟩⟩ := hx
  obtain ⟨V, hV⟩ : ∃ V, V = w.alloc (.cells #[.int .i64 xnu, .int .i64 xep, .int .i64 xcp, .bool mx.s.neg, .slice bX0 mx.s.ls.length bc0, .int .i64 mx.s.ex, .bool mx.w.neg, .slice bX1 mx.w.ls.length bc1, .int .i64 mx.w.ex, .bool mx.c.neg, .slice bX2 mx.c.ls.length bc2, .int .i64 mx.c.ex, .bool mx.a.neg, .slice bX3 mx.a.ls.length bc3, .int .i64 mx.a.ex] 40) := ⟨_, rfl⟩
  have hBV : Below w.heap.size w V := by rw [hV]; exact (Below.refl _ _).alloc (Nat.le_refl _) _
  have kb : Blk V w.heap.size 40 #[.int .i64 xnu, .int .i64 xep, .int .i64 xcp, .bool mx.s.neg, .slice bX0 mx.s.ls.length bc0, .int .i64 mx.s.ex, .bool mx.w.neg, .slice bX1 mx.w.ls.length bc1, .int .i64 mx.w.ex, .bool mx.c.neg, .slice bX2 mx.c.ls.length bc2, .int .i64 mx.c.ex, .bool mx.a.neg, .slice bX3 mx.a.ls.length bc3, .int .i64 mx.a.ex] := by rw [hV]; exact Blk.new w _ _
  have grx : Hid (rdE w w.heap.size (⟨⟨xnu, xep, xcp, mx⟩, bX0, bc0, bX1, bc1, bX2, bc2, bX3, bc3⟩ : EO)) := Lib.hid ⟨⟨bh0, br0⟩, ⟨bh1, br1⟩, ⟨bh2, br2⟩, ⟨bh3, br3⟩⟩
  have gln := Lib.hid (ens_len h)
  have gh := Lib.hid h
  have gs := Lib.hid hs
  clear h hs bh0 br0 bh1 br1 bh2 br2 bh3 br3
  go_enter Try.func39, Try.ntmps39
  go_wp2
  rw [← hV]
  clear hV
  go_loopw [5, 6, 7] (fun o d t wr => ∃ (k : Nat) (D : Bool) (r : Nat) (Ao : Option Addr) (co : Nat) (os : List EO), k ≤ n ∧ o = .slice Ao r co ∧ d = .bool D ∧ t = .int .i64 (k : Int) ∧ r ≤ k + 1 ∧ Hid (r = k + (if D = true then 1 else 0)) ∧ Hid (LnI ⟨xnu, xep, xcp, mx⟩ l k D os) ∧ Hid (∀ q ∈ os, rdE w w.heap.size q) ∧ Hid (wr.ownsRow V.heap.size 40 15 (.slice Ao r co) r (os.flatMap row15)) ∧ Below V.heap.size V wr) (fun _ _ t _ => n - (intOf t).toNat)
  case atStart => exact ⟨0, false, 0, none, 0, [], Nat.zero_le _, rfl, rfl, rfl, by omega, Lib.hid rfl, Lib.hid ⟨(fun h => by cases h), fun _ => ⟨rfl, fun y hy => by simp at hy⟩⟩, Lib.hid (fun q hq => by cases hq), Lib.hid (World.ownsRow_nil _ _ _ _), Below.refl _ _⟩
  case round =>
    obtain ⟨k, D, r, Ao, co, os, hk, rfl, rfl, rfl, hr, gr, gI, grd, gown, hB⟩ := hrel
    by_cases hlt : k < n
    · obtain ⟨ad, nu, ep, cp, ag0, aX0, an0, ac0, ae0, ag1, aX1, an1, ac1, ae1, ag2, aX2, an2, ac2, ae2, ag3, aX3, an3, ac3, ae3, m, rfl, hb1, hl1, hx1, hrel1⟩ := ens_rel gh.out hlt
      obtain ⟨⟨rfl, rfl, rfl, ah0, ar0⟩, ⟨rfl, rfl, rfl, ah1, ar1⟩, ⟨rfl, rfl, rfl, ah2, ar2⟩, ⟨rfl, rfl, rfl, ah3, ar3⟩⟩ := hx1
      have grl : Hid (rdE w w.heap.size (⟨⟨nu, ep, cp, m⟩, aX0, ac0, aX1, ac1, aX2, ac2, aX3, ac3⟩ : EO)) := Lib.hid ⟨⟨ah0, ar0⟩, ⟨ah1, ar1⟩, ⟨ah2, ar2⟩, ⟨ah3, ar3⟩⟩
      have hBr := Below.refl wr.heap.size wr
      have f1 : ∀ q : Bw wr.heap.size wr, q.w.cell? (ad.add (k * 15)) = some (.int .i64 nu) := fun q => (hrel1 q.w (hBV.trans ((hB.trans (q.h.mono hB.size)).mono hBV.size))).2.1
      have f2 : ∀ q : Bw wr.heap.size wr, q.w.cell? ⟨w.heap.size, 0, none⟩ = some (.int .i64 xnu) := fun q => by rw [(kb.below (hB.trans (q.h.mono hB.size)) kb.lt).cell]; rfl
      have i1 : (0 : Int) ≤ k := by omega
      have i2 : (k : Int) < n := by omega
      have gl1 := Lib.hid hl1
      replace hrel1 := Lib.hid hrel1
      have grd1 : Hid (∀ q ∈ os ++ [(⟨⟨nu, ep, cp, m⟩, aX0, ac0, aX1, ac1, aX2, ac2, aX3, ac3⟩ : EO)], rdE w w.heap.size q) := Lib.hid (rds_append grd.out (fun q hq => by rw [List.mem_singleton] at hq; subst hq; exact grl.out))
      have grd2 : Hid (∀ q ∈ (os ++ [(⟨⟨xnu, xep, xcp, mx⟩, bX0, bc0, bX1, bc1, bX2, bc2, bX3, bc3⟩ : EO)]) ++ [(⟨⟨nu, ep, cp, m⟩, aX0, ac0, aX1, ac1, aX2, ac2, aX3, ac3⟩ : EO)], rdE w w.heap.size q) := Lib.hid (rds_append (rds_append grd.out (fun q hq => by rw [List.mem_singleton] at hq; subst hq; exact grx.out)) (fun q hq => by rw [List.mem_singleton] at hq; subst hq; exact grl.out))
      clear hl1 ah0 ar0 ah1 ar1 ah2 ar2 ah3 ar3
      cases D with
      | true =>
        have gI' := Lib.hid (gI.out.on (o := (⟨⟨nu, ep, cp, m⟩, aX0, ac0, aX1, ac1, aX2, ac2, aX3, ac3⟩ : EO)) gl1.out rfl)
        go_wp2_with fail
        refine wp_region_wq wr.heap.size wr hBr (by kernel_rfl) (by kernel_rfl) ?_
        repeat (first | (refine WQ.yes (by rfl) (fun K hK => ?_); go_simp; first | (refine hK _ ?_; clear hK K) | (apply Exists.intro; refine ⟨fun _ => ?_, hK _ ?_⟩; (fail); clear hK K)) | (refine WQ.no (by rfl) ?_; (try simp only [Act.put, List.setIfInBounds_toArray, List.set_cons_zero, List.set_cons_succ])))
        refine WQ.nil ?_
        intro pq
        obtain ⟨wq, hwq⟩ := pq
        dsimp only
        have hBq := hB.trans (hwq.mono hB.size)
        have hBwq := hBV.trans (hBq.mono hBV.size)
        have hsq := hBq.size
        obtain ⟨a0, a1, a2, a3, a4, a5, a6, a7, a8, a9, a10, a11, a12, a13, a14⟩ := (hrel1.out wq hBwq).2
        have hoq := own_below gown.out hwq
        go_wp2_with (at_builtin; refine wpList_append_any _ rfl (.tmp 30) (.tmp 35) 22 rfl V.heap.size 40 i0 _ 15 184 Try.underlying22 hi0 hz0 hz1 hz2 rfl (by omega) (.slice Ao r co) r (os.flatMap row15) rfl (own_below hoq ((Below.refl wq.heap.size wq).alloc (Nat.le_refl _) _)) (wq.heap.size + 1) _ 1 1 (row15 (⟨⟨nu, ep, cp, m⟩, aX0, ac0, aX1, ac1, aX2, ac2, aX3, ac3⟩ : EO)) rfl (reads_one wq (row15 (⟨⟨nu, ep, cp, m⟩, aX0, ac0, aX1, ac1, aX2, ac2, aX3, ac3⟩ : EO)) 40 15 rfl) (row15_one _) (by unfold maxLen; omega) (by omega) (by rw [World.size_alloc]; omega) ?_; intro v4 w4 ho4 hg4 hor4; obtain ⟨A4, c4, rfl, _, _⟩ := own_slice ho4; have hb4 := (hBq.alloc hBq.size (.cells (row15 (⟨⟨nu, ep, cp, m⟩, aX0, ac0, aX1, ac1, aX2, ac2, aX3, ac3⟩ : EO)).toArray 40)).grown hg4 (by rw [World.size_alloc]; have := hBq.size; omega) (fun q hq => own_base hoq hq); have hs4 := hb4.size; have go4 := Lib.hid ho4; clear ho4 hg4 hor4)
        go_roundw
        case rel => exact ⟨k + 1, true, r + 1, A4, c4, os ++ [(⟨⟨nu, ep, cp, m⟩, aX0, ac0, aX1, ac1, aX2, ac2, aX3, ac3⟩ : EO)], by omega, rfl, rfl, by go_num, by have := gr.out; simp at this; omega, Lib.hid (by have := gr.out; simp at this ⊢; omega), gI', grd1, Lib.hid (by have := go4.out; simpa only [List.flatMap_append, List.flatMap_cons, List.flatMap_nil, List.append_nil] using this), hb4⟩
        case measure => simp [intOf]; omega
      | false =>
        by_cases c0 : xnu < nu
        · have f0 : decide (xnu < nu) = true := decide_eq_true c0
          have gI' := Lib.hid (gI.out.lay (o := (⟨⟨nu, ep, cp, m⟩, aX0, ac0, aX1, ac1, aX2, ac2, aX3, ac3⟩ : EO)) (ox := (⟨⟨xnu, xep, xcp, mx⟩, bX0, bc0, bX1, bc1, bX2, bc2, bX3, bc3⟩ : EO)) gl1.out rfl rfl c0)
          clear c0
          go_wp2_with fail
          refine wp_region_wq wr.heap.size wr hBr (by kernel_rfl) (by kernel_rfl) ?_
          repeat (first | (refine WQ.yes (by rfl) (fun K hK => ?_); go_simp; first | (refine hK _ ?_; clear hK K) | (apply Exists.intro; refine ⟨fun _ => ?_, hK _ ?_⟩; (fail); clear hK K)) | (refine WQ.no (by rfl) ?_; (try simp only [Act.put, List.setIfInBounds_toArray, List.set_cons_zero, List.set_cons_succ])))
          refine WQ.nil ?_
          intro pq
          obtain ⟨wq, hwq⟩ := pq
          dsimp only
          have hBq := hB.trans (hwq.mono hB.size)
          have hBwq := hBV.trans (hBq.mono hBV.size)
          have hsq := hBq.size
          obtain ⟨a0, a1, a2, a3, a4, a5, a6, a7, a8, a9, a10, a11, a12, a13, a14⟩ := (hrel1.out wq hBwq).2
          have hoq := own_below gown.out hwq
          have b0 : wq.cell? ⟨w.heap.size, 0, none⟩ = some (.int .i64 xnu) := by rw [(kb.below hBq kb.lt).cell]; rfl
          have b1 : wq.cell? ⟨w.heap.size, 1, none⟩ = some (.int .i64 xep) := by rw [(kb.below hBq kb.lt).cell]; rfl
          have b2 : wq.cell? ⟨w.heap.size, 2, none⟩ = some (.int .i64 xcp) := by rw [(kb.below hBq kb.lt).cell]; rfl
          have b3 : wq.cell? ⟨w.heap.size, 3, none⟩ = some (.bool mx.s.neg) := by rw [(kb.below hBq kb.lt).cell]; rfl
          have b4 : wq.cell? ⟨w.heap.size, 4, none⟩ = some (.slice bX0 mx.s.ls.length bc0) := by rw [(kb.below hBq kb.lt).cell]; rfl
          have b5 : wq.cell? ⟨w.heap.size, 5, none⟩ = some (.int .i64 mx.s.ex) := by rw [(kb.below hBq kb.lt).cell]; rfl
          have b6 : wq.cell? ⟨w.heap.size, 6, none⟩ = some (.bool mx.w.neg) := by rw [(kb.below hBq kb.lt).cell]; rfl
          have b7 : wq.cell? ⟨w.heap.size, 7, none⟩ = some (.slice bX1 mx.w.ls.length bc1) := by rw [(kb.below hBq kb.lt).cell]; rfl
          have b8 : wq.cell? ⟨w.heap.size, 8, none⟩ = some (.int .i64 mx.w.ex) := by rw [(kb.below hBq kb.lt).cell]; rfl
          have b9 : wq.cell? ⟨w.heap.size, 9, none⟩ = some (.bool mx.c.neg) := by rw [(kb.below hBq kb.lt).cell]; rfl
          have b10 : wq.cell? ⟨w.heap.size, 10, none⟩ = some (.slice bX2 mx.c.ls.length bc2) := by rw [(kb.below hBq kb.lt).cell]; rfl
          have b11 : wq.cell? ⟨w.heap.size, 11, none⟩ = some (.int .i64 mx.c.ex) := by rw [(kb.below hBq kb.lt).cell]; rfl
          have b12 : wq.cell? ⟨w.heap.size, 12, none⟩ = some (.bool mx.a.neg) := by rw [(kb.below hBq kb.lt).cell]; rfl
          have b13 : wq.cell? ⟨w.heap.size, 13, none⟩ = some (.slice bX3 mx.a.ls.length bc3) := by rw [(kb.below hBq kb.lt).cell]; rfl
          have b14 : wq.cell? ⟨w.heap.size, 14, none⟩ = some (.int .i64 mx.a.ex) := by rw [(kb.below hBq kb.lt).cell]; rfl
          go_wp2_with (first | (at_builtin; refine wpList_append_any _ rfl (.tmp 26) (.tmp 28) 22 rfl V.heap.size 40 i0 _ 15 184 Try.underlying22 hi0 hz0 hz1 hz2 rfl (by omega) (.slice Ao r co) r (os.flatMap row15) rfl (own_below hoq ((Below.refl wq.heap.size wq).alloc (Nat.le_refl _) _)) (wq.heap.size + 1) _ 1 1 (row15 (⟨⟨xnu, xep, xcp, mx⟩, bX0, bc0, bX1, bc1, bX2, bc2, bX3, bc3⟩ : EO)) rfl (reads_one wq (row15 (⟨⟨xnu, xep, xcp, mx⟩, bX0, bc0, bX1, bc1, bX2, bc2, bX3, bc3⟩ : EO)) 40 15 rfl) (row15_one _) (by unfold maxLen; omega) (by omega) (by rw [World.size_alloc]; omega) ?_; intro v4 w4 ho4 hg4 hor4; obtain ⟨A4, c4, rfl, _, _⟩ := own_slice ho4; have hb4 := (hBq.alloc hBq.size (.cells (row15 (⟨⟨xnu, xep, xcp, mx⟩, bX0, bc0, bX1, bc1, bX2, bc2, bX3, bc3⟩ : EO)).toArray 40)).grown hg4 (by rw [World.size_alloc]; have := hBq.size; omega) (fun q hq => own_base hoq hq); have hs4 := hb4.size; have go4 := Lib.hid ho4; clear hg4 hor4; replace hoq := ho4; clear ho4 a0 a1 a2 a3 a4 a5 a6 a7 a8 a9 a10 a11 a12 a13 a14 b0 b1 b2 b3 b4 b5 b6 b7 b8 b9 b10 b11 b12 b13 b14; obtain ⟨a0, a1, a2, a3, a4, a5, a6, a7, a8, a9, a10, a11, a12, a13, a14⟩ := (hrel1.out w4 (hBV.trans (hb4.mono hBV.size))).2) | (at_builtin; refine wpList_append_any _ rfl (.tmp 30) (.tmp 35) 22 rfl V.heap.size 40 i0 _ 15 184 Try.underlying22 hi0 hz0 hz1 hz2 rfl (by omega) (.slice A4 (r + 1) c4) (r + 1) _ rfl (own_below go4.out ((Below.refl w4.heap.size w4).alloc (Nat.le_refl _) _)) (w4.heap.size + 1) _ 1 1 (row15 (⟨⟨nu, ep, cp, m⟩, aX0, ac0, aX1, ac1, aX2, ac2, aX3, ac3⟩ : EO)) rfl (reads_one w4 (row15 (⟨⟨nu, ep, cp, m⟩, aX0, ac0, aX1, ac1, aX2, ac2, aX3, ac3⟩ : EO)) 40 15 rfl) (row15_one _) (by unfold maxLen; omega) (by omega) (by rw [World.size_alloc]; omega) ?_; intro v5 w5 ho5 hg5 hor5; obtain ⟨A5, c5, rfl, _, _⟩ := own_slice ho5; have hb5 := (hb4.alloc hb4.size (.cells (row15 (⟨⟨nu, ep, cp, m⟩, aX0, ac0, aX1, ac1, aX2, ac2, aX3, ac3⟩ : EO)).toArray 40)).grown hg5 (by rw [World.size_alloc]; have := hb4.size; omega) (fun q hq => own_base go4.out hq); have hs5 := hb5.size; have go5 := Lib.hid ho5; clear ho5 hg5 hor5))
          go_roundw
          case rel => exact ⟨k + 1, true, r + 1 + 1, A5, c5, (os ++ [(⟨⟨xnu, xep, xcp, mx⟩, bX0, bc0, bX1, bc1, bX2, bc2, bX3, bc3⟩ : EO)]) ++ [(⟨⟨nu, ep, cp, m⟩, aX0, ac0, aX1, ac1, aX2, ac2, aX3, ac3⟩ : EO)], by omega, rfl, rfl, by go_num, by have := gr.out; simp at this; omega, Lib.hid (by have := gr.out; simp at this ⊢; omega), gI', grd2, Lib.hid (by have := go5.out; simpa only [List.flatMap_append, List.flatMap_cons, List.flatMap_nil, List.append_nil] using this), hb5⟩
          case measure => simp [intOf]; omega
        · have f0 : decide (xnu < nu) = false := decide_eq_false c0
          have gI' := Lib.hid (gI.out.skip (o := (⟨⟨nu, ep, cp, m⟩, aX0, ac0, aX1, ac1, aX2, ac2, aX3, ac3⟩ : EO)) gl1.out rfl c0)
          clear c0
          go_wp2_with fail
          refine wp_region_wq wr.heap.size wr hBr (by kernel_rfl) (by kernel_rfl) ?_
          repeat (first | (refine WQ.yes (by rfl) (fun K hK => ?_); go_simp; first | (refine hK _ ?_; clear hK K) | (apply Exists.intro; refine ⟨fun _ => ?_, hK _ ?_⟩; (fail); clear hK K)) | (refine WQ.no (by rfl) ?_; (try simp only [Act.put, List.setIfInBounds_toArray, List.set_cons_zero, List.set_cons_succ])))
          refine WQ.nil ?_
          intro pq
          obtain ⟨wq, hwq⟩ := pq
          dsimp only
          have hBq := hB.trans (hwq.mono hB.size)
          have hBwq := hBV.trans (hBq.mono hBV.size)
          have hsq := hBq.size
          obtain ⟨a0, a1, a2, a3, a4, a5, a6, a7, a8, a9, a10, a11, a12, a13, a14⟩ := (hrel1.out wq hBwq).2
          have hoq := own_below gown.out hwq
          go_wp2_with (at_builtin; refine wpList_append_any _ rfl (.tmp 30) (.tmp 35) 22 rfl V.heap.size 40 i0 _ 15 184 Try.underlying22 hi0 hz0 hz1 hz2 rfl (by omega) (.slice Ao r co) r (os.flatMap row15) rfl (own_below hoq ((Below.refl wq.heap.size wq).alloc (Nat.le_refl _) _)) (wq.heap.size + 1) _ 1 1 (row15 (⟨⟨nu, ep, cp, m⟩, aX0, ac0, aX1, ac1, aX2, ac2, aX3, ac3⟩ : EO)) rfl (reads_one wq (row15 (⟨⟨nu, ep, cp, m⟩, aX0, ac0, aX1, ac1, aX2, ac2, aX3, ac3⟩ : EO)) 40 15 rfl) (row15_one _) (by unfold maxLen; omega) (by omega) (by rw [World.size_alloc]; omega) ?_; intro v4 w4 ho4 hg4 hor4; obtain ⟨A4, c4, rfl, _, _⟩ := own_slice ho4; have hb4 := (hBq.alloc hBq.size (.cells (row15 (⟨⟨nu, ep, cp, m⟩, aX0, ac0, aX1, ac1, aX2, ac2, aX3, ac3⟩ : EO)).toArray 40)).grown hg4 (by rw [World.size_alloc]; have := hBq.size; omega) (fun q hq => own_base hoq hq); have hs4 := hb4.size; have go4 := Lib.hid ho4; clear ho4 hg4 hor4)
          go_roundw
          case rel => exact ⟨k + 1, false, r + 1, A4, c4, os ++ [(⟨⟨nu, ep, cp, m⟩, aX0, ac0, aX1, ac1, aX2, ac2, aX3, ac3⟩ : EO)], by omega, rfl, rfl, by go_num, by have := gr.out; simp at this; omega, Lib.hid (by have := gr.out; simp at this ⊢; omega), gI', grd1, Lib.hid (by have := go4.out; simpa only [List.flatMap_append, List.flatMap_cons, List.flatMap_nil, List.append_nil] using this), hb4⟩
          case measure => simp [intOf]; omega
    · obtain rfl : k = n := by omega
      have hBw : Below w.heap.size w wr := hBV.trans (hB.mono hBV.size)
      have gm : Hid (∀ y ∈ insL ⟨xnu, xep, xcp, mx⟩ l, smM y.give) := Lib.hid (insL_sm hsx gs.out)
      cases D with
      | true =>
        have hen : Ens wr wr.heap.size Ao r (insL ⟨xnu, xep, xcp, mx⟩ l) := by
          have h5 := rows_ens (Reads.of_own gown.out) (rds_below grd.out hBw hBw.size)
          rw [(gI.out.1 rfl).1, List.take_of_length_le (by rw [gln.out]; exact Nat.le_refl _)] at h5
          exact h5
        obtain rfl : r = k + 1 := by have := gr.out; simpa using this
        have ht := retwin_any Ao (k + 1) co _ (by omega) gm.out wr hen
        clear hen
        go_wp2_with fail
        refine ht.mono ?_
        rintro en w5 ⟨A5, c5, rfl, hT⟩
        have gT := Lib.hid hT
        clear hT ht
        go_wp2
        go_ret
        exact ⟨A5, c5, rfl, accE_done (gT.out.2.2.2.2.base_le hBw.size) (hBw.trans (gT.out.2.2.2.1.mono hBw.size))⟩
      | false =>
        obtain rfl : r = k := by have := gr.out; simpa using this
        have hoq := gown.out
        have hsq := hB.size
        have b0 : wr.cell? ⟨w.heap.size, 0, none⟩ = some (.int .i64 xnu) := by rw [(kb.below hB kb.lt).cell]; rfl
        have b1 : wr.cell? ⟨w.heap.size, 1, none⟩ = some (.int .i64 xep) := by rw [(kb.below hB kb.lt).cell]; rfl
        have b2 : wr.cell? ⟨w.heap.size, 2, none⟩ = some (.int .i64 xcp) := by rw [(kb.below hB kb.lt).cell]; rfl
        have b3 : wr.cell? ⟨w.heap.size, 3, none⟩ = some (.bool mx.s.neg) := by rw [(kb.below hB kb.lt).cell]; rfl
        have b4 : wr.cell? ⟨w.heap.size, 4, none⟩ = some (.slice bX0 mx.s.ls.length bc0) := by rw [(kb.below hB kb.lt).cell]; rfl
        have b5 : wr.cell? ⟨w.heap.size, 5, none⟩ = some (.int .i64 mx.s.ex) := by rw [(kb.below hB kb.lt).cell]; rfl
        have b6 : wr.cell? ⟨w.heap.size, 6, none⟩ = some (.bool mx.w.neg) := by rw [(kb.below hB kb.lt).cell]; rfl
        have b7 : wr.cell? ⟨w.heap.size, 7, none⟩ = some (.slice bX1 mx.w.ls.length bc1) := by rw [(kb.below hB kb.lt).cell]; rfl
        have b8 : wr.cell? ⟨w.heap.size, 8, none⟩ = some (.int .i64 mx.w.ex) := by rw [(kb.below hB kb.lt).cell]; rfl
        have b9 : wr.cell? ⟨w.heap.size, 9, none⟩ = some (.bool mx.c.neg) := by rw [(kb.below hB kb.lt).cell]; rfl
        have b10 : wr.cell? ⟨w.heap.size, 10, none⟩ = some (.slice bX2 mx.c.ls.length bc2) := by rw [(kb.below hB kb.lt).cell]; rfl
        have b11 : wr.cell? ⟨w.heap.size, 11, none⟩ = some (.int .i64 mx.c.ex) := by rw [(kb.below hB kb.lt).cell]; rfl
        have b12 : wr.cell? ⟨w.heap.size, 12, none⟩ = some (.bool mx.a.neg) := by rw [(kb.below hB kb.lt).cell]; rfl
        have b13 : wr.cell? ⟨w.heap.size, 13, none⟩ = some (.slice bX3 mx.a.ls.length bc3) := by rw [(kb.below hB kb.lt).cell]; rfl
        have b14 : wr.cell? ⟨w.heap.size, 14, none⟩ = some (.int .i64 mx.a.ex) := by rw [(kb.below hB kb.lt).cell]; rfl
        go_wp2_with (at_builtin; refine wpList_append_any _ rfl (.tmp 39) (.tmp 41) 22 rfl V.heap.size 40 i0 _ 15 184 Try.underlying22 hi0 hz0 hz1 hz2 rfl (by omega) (.slice Ao r co) r (os.flatMap row15) rfl (own_below hoq ((Below.refl wr.heap.size wr).alloc (Nat.le_refl _) _)) (wr.heap.size + 1) _ 1 1 (row15 (⟨⟨xnu, xep, xcp, mx⟩, bX0, bc0, bX1, bc1, bX2, bc2, bX3, bc3⟩ : EO)) rfl (reads_one wr (row15 (⟨⟨xnu, xep, xcp, mx⟩, bX0, bc0, bX1, bc1, bX2, bc2, bX3, bc3⟩ : EO)) 40 15 rfl) (row15_one _) (by unfold maxLen; omega) (by omega) (by rw [World.size_alloc]; omega) ?_; intro v4 w4 ho4 hg4 hor4; obtain ⟨A4, c4, rfl, _, _⟩ := own_slice ho4; have hb4 := (hB.alloc hB.size (.cells (row15 (⟨⟨xnu, xep, xcp, mx⟩, bX0, bc0, bX1, bc1, bX2, bc2, bX3, bc3⟩ : EO)).toArray 40)).grown hg4 (by rw [World.size_alloc]; have := hB.size; omega) (fun q hq => own_base hoq hq); have hs4 := hb4.size; have go4 := Lib.hid ho4; clear hg4 hor4)
        have hB4 : Below w.heap.size w w4 := hBV.trans (hb4.mono hBV.size)
        have hen : Ens w4 w4.heap.size A4 (r + 1) (insL ⟨xnu, xep, xcp, mx⟩ l) := by
          have h4 : w4.ownsRow V.heap.size 40 15 (.slice A4 (r + 1) c4) (r + 1) ((os ++ [(⟨⟨xnu, xep, xcp, mx⟩, bX0, bc0, bX1, bc1, bX2, bc2, bX3, bc3⟩ : EO)]).flatMap row15) := by have := go4.out; simpa only [List.flatMap_append, List.flatMap_cons, List.flatMap_nil, List.append_nil] using this
          have h5 := rows_ens (Reads.of_own h4) (rds_below (rds_append grd.out (fun q hq => by rw [List.mem_singleton] at hq; subst hq; exact grx.out)) hB4 hB4.size)
          have h6 := (gI.out.2 rfl).2
          rw [List.take_of_length_le (by rw [gln.out]; exact Nat.le_refl _)] at h6
          rw [List.map_append, (gI.out.2 rfl).1, List.take_of_length_le (by rw [gln.out]; exact Nat.le_refl _)] at h5
          have h7 := insL_none (x := ⟨xnu, xep, xcp, mx⟩) l [] h6
          rw [List.append_nil] at h7
          rw [h7]
          exact h5
        have ht := retwin_any A4 (r + 1) c4 _ (by omega) gm.out w4 hen
        clear hen ho4 hoq
        try go_wp2_with fail
        refine ht.mono ?_
        rintro en w5 ⟨A5, c5, rfl, hT⟩
        have gT := Lib.hid hT
        clear hT ht
        go_wp2
        go_ret
        exact ⟨A5, c5, rfl, accE_done (gT.out.2.2.2.2.base_le hB4.size) (hB4.trans (gT.out.2.2.2.1.mono hB4.size))⟩
end Go.Proofs.Ytdmjdpaehnhdoaa
