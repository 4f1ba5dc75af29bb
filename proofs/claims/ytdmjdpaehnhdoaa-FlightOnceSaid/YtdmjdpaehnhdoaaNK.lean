/- Flight: the walk of FlightOnce -/
import Derived.Test.YtdmjdpaehnhdoaaNI
import Derived.Test.YtdmjdpaehnhdoaaNJ
import Derived.IntWalk
import Derived.Deep.CutRange
namespace Go.Proofs.Ytdmjdpaehnhdoaa
open Go.ChangeShapes Go.WideShapes Go.ChangeAt Go.RowKit
set_option linter.unusedSimpArgs false
set_option linter.unusedVariables false
theorem lch_nil {l la : List En} {N e E : Int} {m : Ms} (h : LchF l N e m la E) (hE : E ≠ 0) : la = [] := by
  rcases h with ⟨_, _, h⟩ | ⟨_, _, _, h⟩ | ⟨_, _, ⟨_, _, h⟩ | ⟨_, ⟨_, _, h⟩ | ⟨_, ⟨_, _, h⟩ | ⟨_, ⟨_, _, h⟩ | ⟨_, h, _⟩⟩⟩⟩⟩
  all_goals first | exact h | exact absurd h hE
theorem grM_smA {m : Ms} (h : grM m.s.ls.length m.s.ex m.w.ls.length m.w.ex m.c.ls.length m.c.ex m.a.ls.length m.a.ex = false) : smM m := by
  have := grM_no h
  unfold smM
  omega
/-- Behind an act: f its error, ox what it brought. -/
def MidO (l : List En) (N e : Int) (mx : Ms) (m k : Nat) (B : Bool) (tb : Nat) (x1 : World) (a q f : Value) (wx : World) : Prop := f = .int .i64 0 ∧ ∃ (A2 : Option Addr) (n2 c2 : Nat) (ln' : List En) (ox : EO) (cp' : Int), a = .slice A2 n2 c2 ∧ q = .int .i64 cp' ∧ Hid (Ens wx wx.heap.size A2 n2 ln') ∧ Hid (∃ b, ownE wx b ox) ∧ Hid (Blk wx tb 40 #[.int .i64 ox.x.nu, .int .i64 ox.x.ep, .int .i64 ox.x.cp, .bool ox.x.give.s.neg, .slice ox.X0 ox.x.give.s.ls.length ox.c0, .int .i64 ox.x.give.s.ex, .bool ox.x.give.w.neg, .slice ox.X1 ox.x.give.w.ls.length ox.c1, .int .i64 ox.x.give.w.ex, .bool ox.x.give.c.neg, .slice ox.X2 ox.x.give.c.ls.length ox.c2, .int .i64 ox.x.give.c.ex, .bool ox.x.give.a.neg, .slice ox.X3 ox.x.give.a.ls.length ox.c3, .int .i64 ox.x.give.a.ex]) ∧ Below x1.heap.size x1 wx ∧ Hid ((ox.x = zE ∧ StO l N e mx B cp' ln') ∨ (B = false ∧ ox.x.nu = N ∧ ox.x.ep = e ∧ ox.x.give = mx ∧ 1 ≤ ox.x.cp ∧ StO l N e mx true cp' ln')) ∧ Hid (m ≤ k + 1 → cp' ≤ 16 - (((k + 1 : Nat) : Int) - m))
def bI : Bool → Int
  | false => 0
  | true => 1
set_option maxRecDepth 100000 in
set_option maxHeartbeats 64000000 in
theorem FlightOnce.walk (A : Option Addr) (n c : Nat) (l : List En) (hnx : n ≤ maxLen) (N e : Int) (bg0 : Bool) (bX0 : Option Addr) (bn0 bc0 : Nat) (be0 : Int) (bg1 : Bool) (bX1 : Option Addr) (bn1 bc1 : Nat) (be1 : Int) (bg2 : Bool) (bX2 : Option Addr) (bn2 bc2 : Nat) (be2 : Int) (bg3 : Bool) (bX3 : Option Addr) (bn3 bc3 : Nat) (be3 : Int) (mx : Ms) (F : Option Addr) (m d : Nat) (hmx : m ≤ maxLen) (zs : List Nat) (w : World) (h : Ens w w.heap.size A n l) (hx : RdM w w.heap.size bg0 bX0 bn0 bc0 be0 bg1 bX1 bn1 bc1 be1 bg2 bX2 bn2 bc2 be2 bg3 bX3 bn3 bc3 be3 mx) (hF : Reads w w.heap.size 1 F m (ints .u8 zs)) : Calls Try.prog 4 #[.slice A n c, .int .i64 N, .int .i64 e, .agg #[.bool bg0, .slice bX0 bn0 bc0, .int .i64 be0, .bool bg1, .slice bX1 bn1 bc1, .int .i64 be1, .bool bg2, .slice bX2 bn2 bc2, .int .i64 be2, .bool bg3, .slice bX3 bn3 bc3, .int .i64 be3], .slice F m d] w fun en w' => en = .returned (.bool true) ∧ Below w.heap.size w w' := by
  have gx := Lib.hid hx
  obtain ⟨⟨rfl, rfl, rfl, bh0, br0⟩, ⟨rfl, rfl, rfl, bh1, br1⟩, ⟨rfl, rfl, rfl, bh2, br2⟩, ⟨rfl, rfl, rfl, bh3, br3⟩⟩ := hx
  clear bh0 br0 bh1 br1 bh2 br2 bh3 br3
  have gh := Lib.hid h
  have gln := Lib.hid (ens_len h)
  have gF : Hid (∀ k, k < m → ∃ (ad : Addr) (z : Nat), F = some ad ∧ ∀ v', Below w.heap.size w v' → v'.cell? (ad.add k) = some (.int .u8 (z : Int))) := Lib.hid (fun k hk => by
    obtain ⟨ad, e, hb, hc⟩ := hF.2 (by omega)
    have hl : zs.length = m := by have := hF.1; simpa [ints] using this
    refine ⟨ad, zs[k]'(by omega), e, fun v' hb' => ?_⟩
    rw [hb'.cell (by rw [block_of_add]; exact hb)]
    exact hc k _ (by simp [ints, List.getElem?_eq_getElem (show k < zs.length by omega)]))
  obtain ⟨V, hV⟩ : ∃ V, V = w.alloc (.cells #[.bool mx.s.neg, .slice bX0 mx.s.ls.length bc0, .int .i64 mx.s.ex, .bool mx.w.neg, .slice bX1 mx.w.ls.length bc1, .int .i64 mx.w.ex, .bool mx.c.neg, .slice bX2 mx.c.ls.length bc2, .int .i64 mx.c.ex, .bool mx.a.neg, .slice bX3 mx.a.ls.length bc3, .int .i64 mx.a.ex] 27) := ⟨_, rfl⟩
  have hBV : Below w.heap.size w V := by rw [hV]; exact (Below.refl _ _).alloc (Nat.le_refl _) _
  have kb : Blk V w.heap.size 27 #[.bool mx.s.neg, .slice bX0 mx.s.ls.length bc0, .int .i64 mx.s.ex, .bool mx.w.neg, .slice bX1 mx.w.ls.length bc1, .int .i64 mx.w.ex, .bool mx.c.neg, .slice bX2 mx.c.ls.length bc2, .int .i64 mx.c.ex, .bool mx.a.neg, .slice bX3 mx.a.ls.length bc3, .int .i64 mx.a.ex] := by rw [hV]; exact Blk.new w _ _
  clear h hF
  go_enter Try.func4, Try.ntmps4
  go_wp2_with fail
  rw [← hV]
  clear hV
  refine (alive_any V).mono ?_
  rintro en w1 ⟨rfl, hb1⟩
  have hB1 := hBV.trans (hb1.mono hBV.size)
  go_wp2_with fail
  refine (lgreat_any A n c l hnx w1 (Recs.more (Recs.below gh.out hB1) hB1.size)).mono ?_
  rintro en wg ⟨G, rfl, hb2, hG⟩
  have hBg := hB1.trans (hb2.mono hB1.size)
  cases G with
  | true =>
    clear hG
    go_wp2
    go_ret
    exact ⟨rfl, hBg⟩
  | false =>
  have hG' := hG rfl
  have gs := Lib.hid (fineA_sm hG'.2)
  have gl20 := Lib.hid hG'.1
  have hn10 : n ≤ 10000 := by have h1 := hG'.1; have h2 := gln.out; rw [h2] at h1; omega
  clear hG hG'
  obtain ⟨R, hR⟩ : ∃ R, grM mx.s.ls.length mx.s.ex mx.w.ls.length mx.w.ex mx.c.ls.length mx.c.ex mx.a.ls.length mx.a.ex = R := ⟨_, rfl⟩
  have hg2 := mgreat_any mx.s.neg bX0 mx.s.ls.length bc0 mx.s.ex mx.w.neg bX1 mx.w.ls.length bc1 mx.w.ex mx.c.neg bX2 mx.c.ls.length bc2 mx.c.ex mx.a.neg bX3 mx.a.ls.length bc3 mx.a.ex R hR wg
  have gR := Lib.hid hR
  clear hR
  have kg := (kb.below hb1 kb.lt).below hb2 (Nat.lt_of_lt_of_le kb.lt hb1.size)
  have b0 : wg.cell? ⟨w.heap.size, 0, none⟩ = some (.bool mx.s.neg) := by rw [kg.cell]; rfl
  have b1 : wg.cell? ⟨w.heap.size, 1, none⟩ = some (.slice bX0 mx.s.ls.length bc0) := by rw [kg.cell]; rfl
  have b2 : wg.cell? ⟨w.heap.size, 2, none⟩ = some (.int .i64 mx.s.ex) := by rw [kg.cell]; rfl
  have b3 : wg.cell? ⟨w.heap.size, 3, none⟩ = some (.bool mx.w.neg) := by rw [kg.cell]; rfl
  have b4 : wg.cell? ⟨w.heap.size, 4, none⟩ = some (.slice bX1 mx.w.ls.length bc1) := by rw [kg.cell]; rfl
  have b5 : wg.cell? ⟨w.heap.size, 5, none⟩ = some (.int .i64 mx.w.ex) := by rw [kg.cell]; rfl
  have b6 : wg.cell? ⟨w.heap.size, 6, none⟩ = some (.bool mx.c.neg) := by rw [kg.cell]; rfl
  have b7 : wg.cell? ⟨w.heap.size, 7, none⟩ = some (.slice bX2 mx.c.ls.length bc2) := by rw [kg.cell]; rfl
  have b8 : wg.cell? ⟨w.heap.size, 8, none⟩ = some (.int .i64 mx.c.ex) := by rw [kg.cell]; rfl
  have b9 : wg.cell? ⟨w.heap.size, 9, none⟩ = some (.bool mx.a.neg) := by rw [kg.cell]; rfl
  have b10 : wg.cell? ⟨w.heap.size, 10, none⟩ = some (.slice bX3 mx.a.ls.length bc3) := by rw [kg.cell]; rfl
  have b11 : wg.cell? ⟨w.heap.size, 11, none⟩ = some (.int .i64 mx.a.ex) := by rw [kg.cell]; rfl
  go_wp2_with fail
  refine hg2.mono ?_
  rintro en w2 ⟨rfl, hb3⟩
  have hB2 := hBg.trans (hb3.mono hBg.size)
  have k2 := kg.below hb3 kg.lt
  clear hg2 hb1 hb2 hb3 kb kg b0 b1 b2 b3 b4 b5 b6 b7 b8 b9 b10 b11
  cases R with
  | true =>
    go_wp2
    go_ret
    exact ⟨rfl, hB2⟩
  | false =>
  have gsx := Lib.hid (grM_smA gR.out)
  by_cases hm60 : 60 < m
  · have d1 : decide ((60 : Int) < (m : Int)) = true := decide_eq_true (by omega)
    have d2 : decide (60 < m) = true := decide_eq_true hm60
    go_wp2
    go_ret
    exact ⟨rfl, hB2⟩
  have d1 : decide ((60 : Int) < (m : Int)) = false := decide_eq_false (by omega)
  have d2 : decide (60 < m) = false := decide_eq_false hm60
  have gCel : Hid (∀ w', Below w2.heap.size w2 w' → w'.cell? ⟨w.heap.size, 0, none⟩ = some (.bool mx.s.neg) ∧ w'.cell? ⟨w.heap.size, 1, none⟩ = some (.slice bX0 mx.s.ls.length bc0) ∧ w'.cell? ⟨w.heap.size, 2, none⟩ = some (.int .i64 mx.s.ex) ∧ w'.cell? ⟨w.heap.size, 3, none⟩ = some (.bool mx.w.neg) ∧ w'.cell? ⟨w.heap.size, 4, none⟩ = some (.slice bX1 mx.w.ls.length bc1) ∧ w'.cell? ⟨w.heap.size, 5, none⟩ = some (.int .i64 mx.w.ex) ∧ w'.cell? ⟨w.heap.size, 6, none⟩ = some (.bool mx.c.neg) ∧ w'.cell? ⟨w.heap.size, 7, none⟩ = some (.slice bX2 mx.c.ls.length bc2) ∧ w'.cell? ⟨w.heap.size, 8, none⟩ = some (.int .i64 mx.c.ex) ∧ w'.cell? ⟨w.heap.size, 9, none⟩ = some (.bool mx.a.neg) ∧ w'.cell? ⟨w.heap.size, 10, none⟩ = some (.slice bX3 mx.a.ls.length bc3) ∧ w'.cell? ⟨w.heap.size, 11, none⟩ = some (.int .i64 mx.a.ex)) := Lib.hid (by
    intro w' hw
    have k5 := k2.below hw k2.lt
    refine ⟨?_, ?_, ?_, ?_, ?_, ?_, ?_, ?_, ?_, ?_, ?_, ?_⟩ <;> (rw [k5.cell]; rfl))
  have gXm : Hid (∀ v', Below w2.heap.size w2 v' → RdM v' v'.heap.size mx.s.neg bX0 mx.s.ls.length bc0 mx.s.ex mx.w.neg bX1 mx.w.ls.length bc1 mx.w.ex mx.c.neg bX2 mx.c.ls.length bc2 mx.c.ex mx.a.neg bX3 mx.a.ls.length bc3 mx.a.ex mx) := Lib.hid (fun v' hb => gx.out.below (hB2.trans (hb.mono hB2.size)) (Nat.le_trans hB2.size hb.size))
  have gL : Hid (∀ v', Below w2.heap.size w2 v' → Ens v' v'.heap.size A n l) := Lib.hid (fun v' hb => Recs.more (Recs.below gh.out (hB2.trans (hb.mono hB2.size))) (Nat.le_trans hB2.size hb.size))
  obtain ⟨a0, a1, a2, a3, a4, a5, a6, a7, a8, a9, a10, a11⟩ := gCel.out _ (Below.refl _ _)
  go_wp2_with fail
  clear a0 a1 a2 a3 a4 a5 a6 a7 a8 a9 a10 a11
  clear d1 d2
  refine (launch_any A n c l hn10 gs.out N e mx.s.neg bX0 mx.s.ls.length bc0 mx.s.ex mx.w.neg bX1 mx.w.ls.length bc1 mx.w.ex mx.c.neg bX2 mx.c.ls.length bc2 mx.c.ex mx.a.neg bX3 mx.a.ls.length bc3 mx.a.ex mx gsx.out w2 (gL.out _ (Below.refl _ _)) (gXm.out _ (Below.refl _ _))).mono ?_
  rintro en x1 ⟨la, v1, E1, rfl, hF1, hO⟩
  obtain ⟨A1, n1, c1, rfl, hT⟩ := hO
  have hBx := hT.2.2.2.1
  have r1 := Lib.hid hT.2.1
  by_cases hE : E1 = 0
  rotate_left
  · have e1 : (E1 == 0) = false := beq_eq_false_iff_ne.2 hE
    have e2 : (E1 != 0) = true := by simp [bne, e1]
    obtain rfl : n1 = 0 := by rw [← ens_len hT.2.1, lch_nil hF1 hE]; rfl
    clear hT hF1 hE
    go_wp2
    go_ret
    exact ⟨rfl, hB2.trans (hBx.mono hB2.size)⟩
  subst hE
  obtain ⟨hl0, hla⟩ := lnc_of hF1
  have gL0 := Lib.hid hl0
  subst hla
  clear hT hF1 hl0
  have nz : ∀ w', Calls Try.prog 25 #[.agg #[.int .i64 0, .int .i64 0, .int .i64 0, .bool false, .slice none 0 0, .int .i64 0, .bool false, .slice none 0 0, .int .i64 0, .bool false, .slice none 0 0, .int .i64 0, .bool false, .slice none 0 0, .int .i64 0]] w' fun en w'' => en = .returned (.bool true) ∧ Below w'.heap.size w' w'' := fun w' => none_any zO zE_sm w' 0 (zO_own w' 0) true (.inr ⟨rfl, rfl⟩)
  have w60 : IntKind.i64.wrap ((m : Int) + 60) = (m : Int) + 60 := IntWalk.i64_in _ (by omega)
  go_wp2
  go_loopw [12, 14, 15, 16] (fun a q b t wr => ∃ (k : Nat) (cp : Int) (B : Bool) (An : Option Addr) (nn cn : Nat) (ln : List En), a = .slice An nn cn ∧ q = .int .i64 cp ∧ b = .int .i64 (bI B) ∧ t = .int .i64 (k : Int) ∧ k ≤ m + 60 ∧ Hid (StO l N e mx B cp ln) ∧ Hid (m ≤ k → cp ≤ 16 - ((k : Int) - m)) ∧ Hid (Ens wr wr.heap.size An nn ln) ∧ Below x1.heap.size x1 wr) (fun _ _ _ t _ => m + 60 - (intOf t).toNat)
  case atStart => exact ⟨0, 1, false, A1, n1, c1, _, rfl, rfl, rfl, rfl, by omega, Lib.hid ⟨by omega, .inl ⟨rfl, by omega, rfl⟩⟩, Lib.hid (by omega), r1, Below.refl _ _⟩
  case round =>
    obtain ⟨k, cp, B, An, nn, cn, ln, rfl, rfl, rfl, rfl, hk, gS, gK, gE, hB⟩ := hrel
    have hcp := gS.out.1
    have gsm := Lib.hid (sto_len gs.out gsx.out gS.out).2
    have qn : nn ≤ 10000 := by rw [← ens_len gE.out]; have := (sto_len gs.out gsx.out gS.out).1; have := gl20.out; omega
    by_cases hlt : 0 < cp
    rotate_left
    · have hkl : k < m + 60 := by have := gK.out; omega
      have hB9 := hBx.trans (hB.mono hBx.size)
      obtain rfl : cp = 0 := by omega
      obtain ⟨hbt, rfl⟩ : B = true ∧ ln = l := by
        rcases gS.out.2 with ⟨_, h1, _⟩ | ⟨h1, h2⟩
        · omega
        · exact ⟨h1, h2⟩
      subst hbt
      have f0 : decide ((k : Int) < (m : Int) + 60) = true := decide_eq_true (by omega)
      simp only [bI]
      go_wp2_with fail
      refine (esame_any An A nn n cn c ln ln qn hn10 gs.out gs.out true (decide_eq_true rfl) wr gE.out (gL.out _ hB9)).mono ?_
      rintro en x9 ⟨rfl, hb9⟩
      go_wp2
      go_ret
      exact ⟨rfl, hB2.trans ((hB9.trans (hb9.mono hB9.size)).mono hB2.size)⟩
    have hkl : k < m + 60 := by have := gK.out; omega
    have f0 : decide ((k : Int) < (m : Int) + 60) = true := decide_eq_true (by omega)
    have f1 : decide (0 < cp) = true := decide_eq_true hlt
    have i1 : (0 : Int) ≤ k := by omega
    obtain ⟨V2, hV2⟩ : ∃ V2, V2 = wr.alloc (.cells #[.int .i64 0, .int .i64 0, .int .i64 0, .bool false, .slice none 0 0, .int .i64 0, .bool false, .slice none 0 0, .int .i64 0, .bool false, .slice none 0 0, .int .i64 0, .bool false, .slice none 0 0, .int .i64 0] 40) := ⟨_, rfl⟩
    obtain ⟨tb, htb⟩ : ∃ tb, tb = wr.heap.size := ⟨_, rfl⟩
    have hA2 : Below wr.heap.size wr V2 := by rw [hV2]; exact (Below.refl _ _).alloc (Nat.le_refl _) _
    have kV : Blk V2 tb 40 #[.int .i64 0, .int .i64 0, .int .i64 0, .bool false, .slice none 0 0, .int .i64 0, .bool false, .slice none 0 0, .int .i64 0, .bool false, .slice none 0 0, .int .i64 0, .bool false, .slice none 0 0, .int .i64 0] := by rw [hV2, htb]; exact Blk.new _ _ _
    have lV : tb < V2.heap.size := kV.lt
    have sV : wr.heap.size ≤ V2.heap.size := hA2.size
    have gE2 := Lib.hid (Recs.more (Recs.below gE.out hA2) hA2.size)
    have hB2' : Below x1.heap.size x1 V2 := hB.trans (hA2.mono hB.size)
    have ltb : x1.heap.size ≤ tb := by rw [htb]; exact hB.size
    obtain ⟨z, hz⟩ : ∃ z : Nat, k < m → ∃ ad, F = some ad ∧ ∀ v', Below w.heap.size w v' → v'.cell? (ad.add k) = some (.int .u8 (z : Int)) := by
      by_cases hkm : k < m
      · obtain ⟨ad, z, h1, h2⟩ := gF.out k hkm
        exact ⟨z, fun _ => ⟨ad, h1, h2⟩⟩
      · exact ⟨0, fun h => absurd h hkm⟩
    have gz := Lib.hid hz
    have hBV2 : Below w.heap.size w V2 := hB2.trans ((hBx.trans (hB2'.mono hBx.size)).mono hB2.size)
    clear hz
    by_cases h16a : (k < m ∧ z = 0) ∧ cp = 16
    · obtain ⟨⟨hkm, hz0⟩, h16⟩ := h16a
      subst hz0 h16
      obtain ⟨ad, rfl, hz⟩ := gz.out hkm
      have f2 : decide (k < m) = true := decide_eq_true hkm
      have i2 : (k : Int) < m := by omega
      have hzc := hz V2 hBV2
      rw [hV2] at hzc
      clear hz f1
      go_wp2
      rw [← hV2]
      clear hV2
      go_roundw
      case rel => exact ⟨k + 1, 16, B, An, nn, cn, ln, rfl, rfl, rfl, by go_num, by omega, gS, Lib.hid (by have := gS.out.1; have h8 := gK.out; omega), gE2, hB2'⟩
      case measure => simp [intOf]; omega
    obtain ⟨bb, hbb⟩ : ∃ bb, decide (k < m ∧ z = 0) = bb := ⟨_, rfl⟩
    have gbb := Lib.hid hbb
    have g16 := Lib.hid h16a
    clear hbb h16a
    replace kV := Lib.hid kV
    go_upto_region 13 with (fail)
    rw [← hV2]
    clear hV2
    rw [← htb]
    clear htb
    go_cut [73] from 52 to 72 (fun s wx => s = .bool bb ∧ V2 = wx)
    case first =>
      by_cases hkm : k < m
      · obtain ⟨ad, rfl, hz⟩ := gz.out hkm
        have f2 : decide (k < m) = true := decide_eq_true hkm
        have i2 : (k : Int) < m := by omega
        have hzc := hz V2 hBV2
        clear hz
        by_cases hz0 : z = 0
        · have hb : bb = true := by rw [← gbb.out]; exact decide_eq_true ⟨hkm, hz0⟩
          subst hz0
          go_wp2
          go_meet
          exact ⟨by rw [hb], rfl⟩
        · have hb : bb = false := by rw [← gbb.out]; exact decide_eq_false (fun h => hz0 h.2)
          have f4 : ((z : Int) == 0) = false := by simp; omega
          have f5 : (z == 0) = false := by simp; omega
          go_wp2
          go_meet
          exact ⟨by rw [hb], rfl⟩
      · have hb : bb = false := by rw [← gbb.out]; exact decide_eq_false (fun h => hkm h.1)
        have f2 : decide (k < m) = false := decide_eq_false hkm
        go_wp2
        go_meet
        exact ⟨by rw [hb], rfl⟩
    case rest =>
    obtain ⟨rfl, rfl⟩ := hcut
    go_upto_if 73 with (fail)
    go_cut [12, 14, 18] from 52 to 143 (fun a q f wx => MidO l N e mx m k B tb x1 a q f wx)
    case first =>
      cases bb with
      | true =>
        have hkz := of_decide_eq_true gbb.out
        have h16 : cp ≠ 16 := fun h => g16.out ⟨hkz, h⟩
        have f3 : (cp == 16) = false := beq_eq_false_iff_ne.2 h16
        have gkm := Lib.hid hkz.1
        clear hkz
        obtain ⟨ln', hD, hS'⟩ := sto_dbl gL0.out gS.out h16
        have gD := Lib.hid hD
        have gS' := Lib.hid hS'
        clear hD hS'
        have hd := double_any An nn cn ln qn gsm.out V2 gE2.out N
        have w1' : IntKind.i64.wrap (cp + 1) = cp + 1 := IntWalk.i64_in _ (by omega)
        go_wp2_with fail
        refine hd.mono ?_
        rintro en x2 ⟨l2, v2, E2, rfl, hF, hO⟩
        obtain ⟨hL, hE0⟩ := dbl_one hF gD.out
        subst hE0
        rw [hL] at hO
        clear hF hL hd
        obtain ⟨A2, n2, c2, rfl, hT⟩ := hO
        have hb2 := hT.2.2.2.1
        have rT := Lib.hid hT.2.1
        clear hT
        have k2 := Lib.hid (kV.out.below hb2 kV.out.lt)
        have hB3 := hB2'.trans (hb2.mono hB2'.size)
        have gK' : Hid (m ≤ k + 1 → cp + 1 ≤ 16 - (((k + 1 : Nat) : Int) - m)) := Lib.hid (by have := gS'.out.1; have := gkm.out; omega)
        go_wp2
        go_meet
        exact ⟨rfl, A2, n2, c2, ln', zO, cp + 1, rfl, rfl, rT, Lib.hid ⟨0, zO_own _ _⟩, Lib.hid (show Blk x2 tb _ _ from k2.out), hB3, Lib.hid (.inl ⟨rfl, gS'.out⟩), gK'⟩
      | false =>
        have hkz := of_decide_eq_false gbb.out
        by_cases hkm : k < m
        · have hz0 : z ≠ 0 := fun h => hkz ⟨hkm, h⟩
          obtain ⟨ad, rfl, hz⟩ := gz.out hkm
          have f2 : decide (k < m) = true := decide_eq_true hkm
          have i2 : (k : Int) < m := by omega
          have hzc := hz V2 hBV2
          clear hz hkz
          by_cases hz1 : z = 1
          · subst hz1
            clear hz0
            obtain ⟨ln', x, hC, hcs⟩ := sto_down gL0.out gS.out (by omega) false
            have gC := Lib.hid hC
            have gcs := Lib.hid hcs
            clear hC hcs
            have hd := lose_any An nn cn ln qn gsm.out V2 gE2.out N
            have w1' : IntKind.i64.wrap (cp - 1) = cp - 1 := IntWalk.i64_in _ (by omega)
            go_wp2_with fail
            refine hd.mono ?_
            rintro en x2 ⟨l2, z2, ox, v2, vx, E2, rfl, hF, rfl, hP⟩
            obtain ⟨hL, hX, hE0⟩ := cme_one hF gC.out
            subst hE0
            rw [hL, hX] at hP
            clear hF hL hX hd
            have hb2 := hP.2
            have k2 := kV.out.below hb2 kV.out.lt
            have hB3 := hB2'.trans (hb2.mono hB2'.size)
            have u0 : x2.cell? ⟨tb, 0, none⟩ = some (.int .i64 0) := by rw [k2.cell]; rfl
            have u1 : x2.cell? ⟨tb, 1, none⟩ = some (.int .i64 0) := by rw [k2.cell]; rfl
            have u2 : x2.cell? ⟨tb, 2, none⟩ = some (.int .i64 0) := by rw [k2.cell]; rfl
            have u3 : x2.cell? ⟨tb, 3, none⟩ = some (.bool false) := by rw [k2.cell]; rfl
            have u4 : x2.cell? ⟨tb, 4, none⟩ = some (.slice none 0 0) := by rw [k2.cell]; rfl
            have u5 : x2.cell? ⟨tb, 5, none⟩ = some (.int .i64 0) := by rw [k2.cell]; rfl
            have u6 : x2.cell? ⟨tb, 6, none⟩ = some (.bool false) := by rw [k2.cell]; rfl
            have u7 : x2.cell? ⟨tb, 7, none⟩ = some (.slice none 0 0) := by rw [k2.cell]; rfl
            have u8 : x2.cell? ⟨tb, 8, none⟩ = some (.int .i64 0) := by rw [k2.cell]; rfl
            have u9 : x2.cell? ⟨tb, 9, none⟩ = some (.bool false) := by rw [k2.cell]; rfl
            have u10 : x2.cell? ⟨tb, 10, none⟩ = some (.slice none 0 0) := by rw [k2.cell]; rfl
            have u11 : x2.cell? ⟨tb, 11, none⟩ = some (.int .i64 0) := by rw [k2.cell]; rfl
            have u12 : x2.cell? ⟨tb, 12, none⟩ = some (.bool false) := by rw [k2.cell]; rfl
            have u13 : x2.cell? ⟨tb, 13, none⟩ = some (.slice none 0 0) := by rw [k2.cell]; rfl
            have u14 : x2.cell? ⟨tb, 14, none⟩ = some (.int .i64 0) := by rw [k2.cell]; rfl
            have uf0 := k2.frozen 0
            have uf1 := k2.frozen 1
            have uf2 := k2.frozen 2
            have uf3 := k2.frozen 3
            have uf4 := k2.frozen 4
            have uf5 := k2.frozen 5
            have uf6 := k2.frozen 6
            have uf7 := k2.frozen 7
            have uf8 := k2.frozen 8
            have uf9 := k2.frozen 9
            have uf10 := k2.frozen 10
            have uf11 := k2.frozen 11
            have uf12 := k2.frozen 12
            have uf13 := k2.frozen 13
            have uf14 := k2.frozen 14
            obtain ⟨W9, hW9⟩ : ∃ W9, W9 = b15 x2 tb (.int .i64 ox.x.nu) (.int .i64 ox.x.ep) (.int .i64 ox.x.cp) (.bool ox.x.give.s.neg) (.slice ox.X0 ox.x.give.s.ls.length ox.c0) (.int .i64 ox.x.give.s.ex) (.bool ox.x.give.w.neg) (.slice ox.X1 ox.x.give.w.ls.length ox.c1) (.int .i64 ox.x.give.w.ex) (.bool ox.x.give.c.neg) (.slice ox.X2 ox.x.give.c.ls.length ox.c2) (.int .i64 ox.x.give.c.ex) (.bool ox.x.give.a.neg) (.slice ox.X3 ox.x.give.a.ls.length ox.c3) (.int .i64 ox.x.give.a.ex) := ⟨_, rfl⟩
            have k9 : Hid (Blk W9 tb 40 #[.int .i64 ox.x.nu, .int .i64 ox.x.ep, .int .i64 ox.x.cp, .bool ox.x.give.s.neg, .slice ox.X0 ox.x.give.s.ls.length ox.c0, .int .i64 ox.x.give.s.ex, .bool ox.x.give.w.neg, .slice ox.X1 ox.x.give.w.ls.length ox.c1, .int .i64 ox.x.give.w.ex, .bool ox.x.give.c.neg, .slice ox.X2 ox.x.give.c.ls.length ox.c2, .int .i64 ox.x.give.c.ex, .bool ox.x.give.a.neg, .slice ox.X3 ox.x.give.a.ls.length ox.c3, .int .i64 ox.x.give.a.ex]) := Lib.hid (by rw [hW9]; exact b15_blk k2 rfl (.int .i64 ox.x.nu) (.int .i64 ox.x.ep) (.int .i64 ox.x.cp) (.bool ox.x.give.s.neg) (.slice ox.X0 ox.x.give.s.ls.length ox.c0) (.int .i64 ox.x.give.s.ex) (.bool ox.x.give.w.neg) (.slice ox.X1 ox.x.give.w.ls.length ox.c1) (.int .i64 ox.x.give.w.ex) (.bool ox.x.give.c.neg) (.slice ox.X2 ox.x.give.c.ls.length ox.c2) (.int .i64 ox.x.give.c.ex) (.bool ox.x.give.a.neg) (.slice ox.X3 ox.x.give.a.ls.length ox.c3) (.int .i64 ox.x.give.a.ex))
            have hP9 : PairC V2.heap.size v2 ln' x ox W9 := by rw [hW9]; exact hP.1.other lV (b15_other x2 _ (.int .i64 ox.x.nu) (.int .i64 ox.x.ep) (.int .i64 ox.x.cp) (.bool ox.x.give.s.neg) (.slice ox.X0 ox.x.give.s.ls.length ox.c0) (.int .i64 ox.x.give.s.ex) (.bool ox.x.give.w.neg) (.slice ox.X1 ox.x.give.w.ls.length ox.c1) (.int .i64 ox.x.give.w.ex) (.bool ox.x.give.c.neg) (.slice ox.X2 ox.x.give.c.ls.length ox.c2) (.int .i64 ox.x.give.c.ex) (.bool ox.x.give.a.neg) (.slice ox.X3 ox.x.give.a.ls.length ox.c3) (.int .i64 ox.x.give.a.ex))
            have hB9 : Below x1.heap.size x1 W9 := by rw [hW9]; exact b15_below hB3 ltb (.int .i64 ox.x.nu) (.int .i64 ox.x.ep) (.int .i64 ox.x.cp) (.bool ox.x.give.s.neg) (.slice ox.X0 ox.x.give.s.ls.length ox.c0) (.int .i64 ox.x.give.s.ex) (.bool ox.x.give.w.neg) (.slice ox.X1 ox.x.give.w.ls.length ox.c1) (.int .i64 ox.x.give.w.ex) (.bool ox.x.give.c.neg) (.slice ox.X2 ox.x.give.c.ls.length ox.c2) (.int .i64 ox.x.give.c.ex) (.bool ox.x.give.a.neg) (.slice ox.X3 ox.x.give.a.ls.length ox.c3) (.int .i64 ox.x.give.a.ex)
            obtain ⟨A2, n2, c2, os, rfl, he, fx, hr, ho, hox, _⟩ := hP9
            have rT := Lib.hid (RowE.ens (⟨hr, ho⟩ : RowE W9 V2.heap.size A2 n2 c2 os) he)
            have ux := Lib.hid hox
            have gfx := Lib.hid fx
            clear he hr ho hox fx hP k2
            have gK' : Hid (m ≤ k + 1 → cp - 1 ≤ 16 - (((k + 1 : Nat) : Int) - m)) := Lib.hid (by have := gK.out; have := hcp; omega)
            unfold b15 at hW9
            unfold aggE
            go_wp2
            rw [← hW9]
            clear hW9
            clear u0 u1 u2 u3 u4 u5 u6 u7 u8 u9 u10 u11 u12 u13 u14
            clear uf0 uf1 uf2 uf3 uf4 uf5 uf6 uf7 uf8 uf9 uf10 uf11 uf12 uf13 uf14
            go_meet
            exact ⟨rfl, A2, n2, c2, ln', ox, cp - 1, rfl, rfl, rT, Lib.hid ⟨_, ux.out⟩, k9, hB9, Lib.hid (by rcases gcs.out with ⟨h1, h2⟩ | ⟨h0, h1, h2, h3, h4, h5⟩; exact .inl ⟨by rw [gfx.out, h1], h2⟩; exact .inr ⟨h0, by rw [gfx.out, h1], by rw [gfx.out, h2], by rw [gfx.out, h3], by rw [gfx.out]; exact h4, h5⟩), gK'⟩
          · have f6 : ((z : Int) == 1) = false := by simp; omega
            have f7 : (z == 1) = false := by simp; omega
            obtain ⟨ln', x, hC, hcs⟩ := sto_down gL0.out gS.out (by omega) true
            have gC := Lib.hid hC
            have gcs := Lib.hid hcs
            clear hC hcs
            have hd := land_any An nn cn ln qn gsm.out V2 gE2.out N
            have w1' : IntKind.i64.wrap (cp - 1) = cp - 1 := IntWalk.i64_in _ (by omega)
            go_wp2_with fail
            refine hd.mono ?_
            rintro en x2 ⟨l2, z2, ox, v2, vx, E2, rfl, hF, rfl, hP⟩
            obtain ⟨hL, hX, hE0⟩ := cme_one hF gC.out
            subst hE0
            rw [hL, hX] at hP
            clear hF hL hX hd
            have hb2 := hP.2
            have k2 := kV.out.below hb2 kV.out.lt
            have hB3 := hB2'.trans (hb2.mono hB2'.size)
            have u0 : x2.cell? ⟨tb, 0, none⟩ = some (.int .i64 0) := by rw [k2.cell]; rfl
            have u1 : x2.cell? ⟨tb, 1, none⟩ = some (.int .i64 0) := by rw [k2.cell]; rfl
            have u2 : x2.cell? ⟨tb, 2, none⟩ = some (.int .i64 0) := by rw [k2.cell]; rfl
            have u3 : x2.cell? ⟨tb, 3, none⟩ = some (.bool false) := by rw [k2.cell]; rfl
            have u4 : x2.cell? ⟨tb, 4, none⟩ = some (.slice none 0 0) := by rw [k2.cell]; rfl
            have u5 : x2.cell? ⟨tb, 5, none⟩ = some (.int .i64 0) := by rw [k2.cell]; rfl
            have u6 : x2.cell? ⟨tb, 6, none⟩ = some (.bool false) := by rw [k2.cell]; rfl
            have u7 : x2.cell? ⟨tb, 7, none⟩ = some (.slice none 0 0) := by rw [k2.cell]; rfl
            have u8 : x2.cell? ⟨tb, 8, none⟩ = some (.int .i64 0) := by rw [k2.cell]; rfl
            have u9 : x2.cell? ⟨tb, 9, none⟩ = some (.bool false) := by rw [k2.cell]; rfl
            have u10 : x2.cell? ⟨tb, 10, none⟩ = some (.slice none 0 0) := by rw [k2.cell]; rfl
            have u11 : x2.cell? ⟨tb, 11, none⟩ = some (.int .i64 0) := by rw [k2.cell]; rfl
            have u12 : x2.cell? ⟨tb, 12, none⟩ = some (.bool false) := by rw [k2.cell]; rfl
            have u13 : x2.cell? ⟨tb, 13, none⟩ = some (.slice none 0 0) := by rw [k2.cell]; rfl
            have u14 : x2.cell? ⟨tb, 14, none⟩ = some (.int .i64 0) := by rw [k2.cell]; rfl
            have uf0 := k2.frozen 0
            have uf1 := k2.frozen 1
            have uf2 := k2.frozen 2
            have uf3 := k2.frozen 3
            have uf4 := k2.frozen 4
            have uf5 := k2.frozen 5
            have uf6 := k2.frozen 6
            have uf7 := k2.frozen 7
            have uf8 := k2.frozen 8
            have uf9 := k2.frozen 9
            have uf10 := k2.frozen 10
            have uf11 := k2.frozen 11
            have uf12 := k2.frozen 12
            have uf13 := k2.frozen 13
            have uf14 := k2.frozen 14
            obtain ⟨W9, hW9⟩ : ∃ W9, W9 = b15 x2 tb (.int .i64 ox.x.nu) (.int .i64 ox.x.ep) (.int .i64 ox.x.cp) (.bool ox.x.give.s.neg) (.slice ox.X0 ox.x.give.s.ls.length ox.c0) (.int .i64 ox.x.give.s.ex) (.bool ox.x.give.w.neg) (.slice ox.X1 ox.x.give.w.ls.length ox.c1) (.int .i64 ox.x.give.w.ex) (.bool ox.x.give.c.neg) (.slice ox.X2 ox.x.give.c.ls.length ox.c2) (.int .i64 ox.x.give.c.ex) (.bool ox.x.give.a.neg) (.slice ox.X3 ox.x.give.a.ls.length ox.c3) (.int .i64 ox.x.give.a.ex) := ⟨_, rfl⟩
            have k9 : Hid (Blk W9 tb 40 #[.int .i64 ox.x.nu, .int .i64 ox.x.ep, .int .i64 ox.x.cp, .bool ox.x.give.s.neg, .slice ox.X0 ox.x.give.s.ls.length ox.c0, .int .i64 ox.x.give.s.ex, .bool ox.x.give.w.neg, .slice ox.X1 ox.x.give.w.ls.length ox.c1, .int .i64 ox.x.give.w.ex, .bool ox.x.give.c.neg, .slice ox.X2 ox.x.give.c.ls.length ox.c2, .int .i64 ox.x.give.c.ex, .bool ox.x.give.a.neg, .slice ox.X3 ox.x.give.a.ls.length ox.c3, .int .i64 ox.x.give.a.ex]) := Lib.hid (by rw [hW9]; exact b15_blk k2 rfl (.int .i64 ox.x.nu) (.int .i64 ox.x.ep) (.int .i64 ox.x.cp) (.bool ox.x.give.s.neg) (.slice ox.X0 ox.x.give.s.ls.length ox.c0) (.int .i64 ox.x.give.s.ex) (.bool ox.x.give.w.neg) (.slice ox.X1 ox.x.give.w.ls.length ox.c1) (.int .i64 ox.x.give.w.ex) (.bool ox.x.give.c.neg) (.slice ox.X2 ox.x.give.c.ls.length ox.c2) (.int .i64 ox.x.give.c.ex) (.bool ox.x.give.a.neg) (.slice ox.X3 ox.x.give.a.ls.length ox.c3) (.int .i64 ox.x.give.a.ex))
            have hP9 : PairC V2.heap.size v2 ln' x ox W9 := by rw [hW9]; exact hP.1.other lV (b15_other x2 _ (.int .i64 ox.x.nu) (.int .i64 ox.x.ep) (.int .i64 ox.x.cp) (.bool ox.x.give.s.neg) (.slice ox.X0 ox.x.give.s.ls.length ox.c0) (.int .i64 ox.x.give.s.ex) (.bool ox.x.give.w.neg) (.slice ox.X1 ox.x.give.w.ls.length ox.c1) (.int .i64 ox.x.give.w.ex) (.bool ox.x.give.c.neg) (.slice ox.X2 ox.x.give.c.ls.length ox.c2) (.int .i64 ox.x.give.c.ex) (.bool ox.x.give.a.neg) (.slice ox.X3 ox.x.give.a.ls.length ox.c3) (.int .i64 ox.x.give.a.ex))
            have hB9 : Below x1.heap.size x1 W9 := by rw [hW9]; exact b15_below hB3 ltb (.int .i64 ox.x.nu) (.int .i64 ox.x.ep) (.int .i64 ox.x.cp) (.bool ox.x.give.s.neg) (.slice ox.X0 ox.x.give.s.ls.length ox.c0) (.int .i64 ox.x.give.s.ex) (.bool ox.x.give.w.neg) (.slice ox.X1 ox.x.give.w.ls.length ox.c1) (.int .i64 ox.x.give.w.ex) (.bool ox.x.give.c.neg) (.slice ox.X2 ox.x.give.c.ls.length ox.c2) (.int .i64 ox.x.give.c.ex) (.bool ox.x.give.a.neg) (.slice ox.X3 ox.x.give.a.ls.length ox.c3) (.int .i64 ox.x.give.a.ex)
            obtain ⟨A2, n2, c2, os, rfl, he, fx, hr, ho, hox, _⟩ := hP9
            have rT := Lib.hid (RowE.ens (⟨hr, ho⟩ : RowE W9 V2.heap.size A2 n2 c2 os) he)
            have ux := Lib.hid hox
            have gfx := Lib.hid fx
            clear he hr ho hox fx hP k2
            have gK' : Hid (m ≤ k + 1 → cp - 1 ≤ 16 - (((k + 1 : Nat) : Int) - m)) := Lib.hid (by have := gK.out; have := hcp; omega)
            unfold b15 at hW9
            unfold aggE
            go_wp2
            rw [← hW9]
            clear hW9
            clear u0 u1 u2 u3 u4 u5 u6 u7 u8 u9 u10 u11 u12 u13 u14
            clear uf0 uf1 uf2 uf3 uf4 uf5 uf6 uf7 uf8 uf9 uf10 uf11 uf12 uf13 uf14
            go_meet
            exact ⟨rfl, A2, n2, c2, ln', ox, cp - 1, rfl, rfl, rT, Lib.hid ⟨_, ux.out⟩, k9, hB9, Lib.hid (by rcases gcs.out with ⟨h1, h2⟩ | ⟨h0, h1, h2, h3, h4, h5⟩; exact .inl ⟨by rw [gfx.out, h1], h2⟩; exact .inr ⟨h0, by rw [gfx.out, h1], by rw [gfx.out, h2], by rw [gfx.out, h3], by rw [gfx.out]; exact h4, h5⟩), gK'⟩
        · have f2 : decide (k < m) = false := decide_eq_false hkm
          clear hkz
          obtain ⟨ln', x, hC, hcs⟩ := sto_down gL0.out gS.out (by omega) true
          have gC := Lib.hid hC
          have gcs := Lib.hid hcs
          clear hC hcs
          have hd := land_any An nn cn ln qn gsm.out V2 gE2.out N
          have w1' : IntKind.i64.wrap (cp - 1) = cp - 1 := IntWalk.i64_in _ (by omega)
          go_wp2_with fail
          refine hd.mono ?_
          rintro en x2 ⟨l2, z2, ox, v2, vx, E2, rfl, hF, rfl, hP⟩
          obtain ⟨hL, hX, hE0⟩ := cme_one hF gC.out
          subst hE0
          rw [hL, hX] at hP
          clear hF hL hX hd
          have hb2 := hP.2
          have k2 := kV.out.below hb2 kV.out.lt
          have hB3 := hB2'.trans (hb2.mono hB2'.size)
          have u0 : x2.cell? ⟨tb, 0, none⟩ = some (.int .i64 0) := by rw [k2.cell]; rfl
          have u1 : x2.cell? ⟨tb, 1, none⟩ = some (.int .i64 0) := by rw [k2.cell]; rfl
          have u2 : x2.cell? ⟨tb, 2, none⟩ = some (.int .i64 0) := by rw [k2.cell]; rfl
          have u3 : x2.cell? ⟨tb, 3, none⟩ = some (.bool false) := by rw [k2.cell]; rfl
          have u4 : x2.cell? ⟨tb, 4, none⟩ = some (.slice none 0 0) := by rw [k2.cell]; rfl
          have u5 : x2.cell? ⟨tb, 5, none⟩ = some (.int .i64 0) := by rw [k2.cell]; rfl
          have u6 : x2.cell? ⟨tb, 6, none⟩ = some (.bool false) := by rw [k2.cell]; rfl
          have u7 : x2.cell? ⟨tb, 7, none⟩ = some (.slice none 0 0) := by rw [k2.cell]; rfl
          have u8 : x2.cell? ⟨tb, 8, none⟩ = some (.int .i64 0) := by rw [k2.cell]; rfl
          have u9 : x2.cell? ⟨tb, 9, none⟩ = some (.bool false) := by rw [k2.cell]; rfl
          have u10 : x2.cell? ⟨tb, 10, none⟩ = some (.slice none 0 0) := by rw [k2.cell]; rfl
          have u11 : x2.cell? ⟨tb, 11, none⟩ = some (.int .i64 0) := by rw [k2.cell]; rfl
          have u12 : x2.cell? ⟨tb, 12, none⟩ = some (.bool false) := by rw [k2.cell]; rfl
          have u13 : x2.cell? ⟨tb, 13, none⟩ = some (.slice none 0 0) := by rw [k2.cell]; rfl
          have u14 : x2.cell? ⟨tb, 14, none⟩ = some (.int .i64 0) := by rw [k2.cell]; rfl
          have uf0 := k2.frozen 0
          have uf1 := k2.frozen 1
          have uf2 := k2.frozen 2
          have uf3 := k2.frozen 3
          have uf4 := k2.frozen 4
          have uf5 := k2.frozen 5
          have uf6 := k2.frozen 6
          have uf7 := k2.frozen 7
          have uf8 := k2.frozen 8
          have uf9 := k2.frozen 9
          have uf10 := k2.frozen 10
          have uf11 := k2.frozen 11
          have uf12 := k2.frozen 12
          have uf13 := k2.frozen 13
          have uf14 := k2.frozen 14
          obtain ⟨W9, hW9⟩ : ∃ W9, W9 = b15 x2 tb (.int .i64 ox.x.nu) (.int .i64 ox.x.ep) (.int .i64 ox.x.cp) (.bool ox.x.give.s.neg) (.slice ox.X0 ox.x.give.s.ls.length ox.c0) (.int .i64 ox.x.give.s.ex) (.bool ox.x.give.w.neg) (.slice ox.X1 ox.x.give.w.ls.length ox.c1) (.int .i64 ox.x.give.w.ex) (.bool ox.x.give.c.neg) (.slice ox.X2 ox.x.give.c.ls.length ox.c2) (.int .i64 ox.x.give.c.ex) (.bool ox.x.give.a.neg) (.slice ox.X3 ox.x.give.a.ls.length ox.c3) (.int .i64 ox.x.give.a.ex) := ⟨_, rfl⟩
          have k9 : Hid (Blk W9 tb 40 #[.int .i64 ox.x.nu, .int .i64 ox.x.ep, .int .i64 ox.x.cp, .bool ox.x.give.s.neg, .slice ox.X0 ox.x.give.s.ls.length ox.c0, .int .i64 ox.x.give.s.ex, .bool ox.x.give.w.neg, .slice ox.X1 ox.x.give.w.ls.length ox.c1, .int .i64 ox.x.give.w.ex, .bool ox.x.give.c.neg, .slice ox.X2 ox.x.give.c.ls.length ox.c2, .int .i64 ox.x.give.c.ex, .bool ox.x.give.a.neg, .slice ox.X3 ox.x.give.a.ls.length ox.c3, .int .i64 ox.x.give.a.ex]) := Lib.hid (by rw [hW9]; exact b15_blk k2 rfl (.int .i64 ox.x.nu) (.int .i64 ox.x.ep) (.int .i64 ox.x.cp) (.bool ox.x.give.s.neg) (.slice ox.X0 ox.x.give.s.ls.length ox.c0) (.int .i64 ox.x.give.s.ex) (.bool ox.x.give.w.neg) (.slice ox.X1 ox.x.give.w.ls.length ox.c1) (.int .i64 ox.x.give.w.ex) (.bool ox.x.give.c.neg) (.slice ox.X2 ox.x.give.c.ls.length ox.c2) (.int .i64 ox.x.give.c.ex) (.bool ox.x.give.a.neg) (.slice ox.X3 ox.x.give.a.ls.length ox.c3) (.int .i64 ox.x.give.a.ex))
          have hP9 : PairC V2.heap.size v2 ln' x ox W9 := by rw [hW9]; exact hP.1.other lV (b15_other x2 _ (.int .i64 ox.x.nu) (.int .i64 ox.x.ep) (.int .i64 ox.x.cp) (.bool ox.x.give.s.neg) (.slice ox.X0 ox.x.give.s.ls.length ox.c0) (.int .i64 ox.x.give.s.ex) (.bool ox.x.give.w.neg) (.slice ox.X1 ox.x.give.w.ls.length ox.c1) (.int .i64 ox.x.give.w.ex) (.bool ox.x.give.c.neg) (.slice ox.X2 ox.x.give.c.ls.length ox.c2) (.int .i64 ox.x.give.c.ex) (.bool ox.x.give.a.neg) (.slice ox.X3 ox.x.give.a.ls.length ox.c3) (.int .i64 ox.x.give.a.ex))
          have hB9 : Below x1.heap.size x1 W9 := by rw [hW9]; exact b15_below hB3 ltb (.int .i64 ox.x.nu) (.int .i64 ox.x.ep) (.int .i64 ox.x.cp) (.bool ox.x.give.s.neg) (.slice ox.X0 ox.x.give.s.ls.length ox.c0) (.int .i64 ox.x.give.s.ex) (.bool ox.x.give.w.neg) (.slice ox.X1 ox.x.give.w.ls.length ox.c1) (.int .i64 ox.x.give.w.ex) (.bool ox.x.give.c.neg) (.slice ox.X2 ox.x.give.c.ls.length ox.c2) (.int .i64 ox.x.give.c.ex) (.bool ox.x.give.a.neg) (.slice ox.X3 ox.x.give.a.ls.length ox.c3) (.int .i64 ox.x.give.a.ex)
          obtain ⟨A2, n2, c2, os, rfl, he, fx, hr, ho, hox, _⟩ := hP9
          have rT := Lib.hid (RowE.ens (⟨hr, ho⟩ : RowE W9 V2.heap.size A2 n2 c2 os) he)
          have ux := Lib.hid hox
          have gfx := Lib.hid fx
          clear he hr ho hox fx hP k2
          have gK' : Hid (m ≤ k + 1 → cp - 1 ≤ 16 - (((k + 1 : Nat) : Int) - m)) := Lib.hid (by have := gK.out; have := hcp; omega)
          unfold b15 at hW9
          unfold aggE
          go_wp2
          rw [← hW9]
          clear hW9
          clear u0 u1 u2 u3 u4 u5 u6 u7 u8 u9 u10 u11 u12 u13 u14
          clear uf0 uf1 uf2 uf3 uf4 uf5 uf6 uf7 uf8 uf9 uf10 uf11 uf12 uf13 uf14
          go_meet
          exact ⟨rfl, A2, n2, c2, ln', ox, cp - 1, rfl, rfl, rT, Lib.hid ⟨_, ux.out⟩, k9, hB9, Lib.hid (by rcases gcs.out with ⟨h1, h2⟩ | ⟨h0, h1, h2, h3, h4, h5⟩; exact .inl ⟨by rw [gfx.out, h1], h2⟩; exact .inr ⟨h0, by rw [gfx.out, h1], by rw [gfx.out, h2], by rw [gfx.out, h3], by rw [gfx.out]; exact h4, h5⟩), gK'⟩
    case rest =>
    obtain ⟨rfl, A2, n2, c2, ln', ox, cp', rfl, rfl, rT, hux, k9, hB9, gcs, gK'⟩ := hcut
    obtain ⟨bx, hux⟩ := hux.out
    have ux := Lib.hid hux
    clear hux
    have l9 := k9.out.lt
    have u0 : wc.cell? ⟨tb, 0, none⟩ = some (.int .i64 ox.x.nu) := by rw [k9.out.cell]; rfl
    have u1 : wc.cell? ⟨tb, 1, none⟩ = some (.int .i64 ox.x.ep) := by rw [k9.out.cell]; rfl
    have u2 : wc.cell? ⟨tb, 2, none⟩ = some (.int .i64 ox.x.cp) := by rw [k9.out.cell]; rfl
    have u3 : wc.cell? ⟨tb, 3, none⟩ = some (.bool ox.x.give.s.neg) := by rw [k9.out.cell]; rfl
    have u4 : wc.cell? ⟨tb, 4, none⟩ = some (.slice ox.X0 ox.x.give.s.ls.length ox.c0) := by rw [k9.out.cell]; rfl
    have u5 : wc.cell? ⟨tb, 5, none⟩ = some (.int .i64 ox.x.give.s.ex) := by rw [k9.out.cell]; rfl
    have u6 : wc.cell? ⟨tb, 6, none⟩ = some (.bool ox.x.give.w.neg) := by rw [k9.out.cell]; rfl
    have u7 : wc.cell? ⟨tb, 7, none⟩ = some (.slice ox.X1 ox.x.give.w.ls.length ox.c1) := by rw [k9.out.cell]; rfl
    have u8 : wc.cell? ⟨tb, 8, none⟩ = some (.int .i64 ox.x.give.w.ex) := by rw [k9.out.cell]; rfl
    have u9 : wc.cell? ⟨tb, 9, none⟩ = some (.bool ox.x.give.c.neg) := by rw [k9.out.cell]; rfl
    have u10 : wc.cell? ⟨tb, 10, none⟩ = some (.slice ox.X2 ox.x.give.c.ls.length ox.c2) := by rw [k9.out.cell]; rfl
    have u11 : wc.cell? ⟨tb, 11, none⟩ = some (.int .i64 ox.x.give.c.ex) := by rw [k9.out.cell]; rfl
    have u12 : wc.cell? ⟨tb, 12, none⟩ = some (.bool ox.x.give.a.neg) := by rw [k9.out.cell]; rfl
    have u13 : wc.cell? ⟨tb, 13, none⟩ = some (.slice ox.X3 ox.x.give.a.ls.length ox.c3) := by rw [k9.out.cell]; rfl
    have u14 : wc.cell? ⟨tb, 14, none⟩ = some (.int .i64 ox.x.give.a.ex) := by rw [k9.out.cell]; rfl
    go_wp2_with fail
    clear u0 u1 u2 u3 u4 u5 u6 u7 u8 u9 u10 u11 u12 u13 u14
    rcases gcs.out with ⟨hxz, hS'⟩ | ⟨hBf, hxn, hxe, hxg, hxc, hS'⟩
    · have gS' := Lib.hid hS'
      have gxz := Lib.hid hxz
      clear hxz hS'
      refine (none_any ox (by rw [gxz.out]; exact zE_sm) wc _ ux.out true (.inr ⟨rfl, gxz.out⟩)).mono ?_
      rintro en x3 ⟨rfl, hb3⟩
      have k3 := k9.out.below hb3 k9.out.lt
      have hB4 := hB9.trans (hb3.mono hB9.size)
      have rT3 := Lib.hid (Recs.more (Recs.below rT.out hb3) hb3.size)
      have u3 := Lib.hid (ux.out.map (fun h => h.below hb3))
      have u0 : x3.cell? ⟨tb, 0, none⟩ = some (.int .i64 ox.x.nu) := by rw [k3.cell]; rfl
      have u1 : x3.cell? ⟨tb, 1, none⟩ = some (.int .i64 ox.x.ep) := by rw [k3.cell]; rfl
      have u2 : x3.cell? ⟨tb, 2, none⟩ = some (.int .i64 ox.x.cp) := by rw [k3.cell]; rfl
      have u3 : x3.cell? ⟨tb, 3, none⟩ = some (.bool ox.x.give.s.neg) := by rw [k3.cell]; rfl
      have u4 : x3.cell? ⟨tb, 4, none⟩ = some (.slice ox.X0 ox.x.give.s.ls.length ox.c0) := by rw [k3.cell]; rfl
      have u5 : x3.cell? ⟨tb, 5, none⟩ = some (.int .i64 ox.x.give.s.ex) := by rw [k3.cell]; rfl
      have u6 : x3.cell? ⟨tb, 6, none⟩ = some (.bool ox.x.give.w.neg) := by rw [k3.cell]; rfl
      have u7 : x3.cell? ⟨tb, 7, none⟩ = some (.slice ox.X1 ox.x.give.w.ls.length ox.c1) := by rw [k3.cell]; rfl
      have u8 : x3.cell? ⟨tb, 8, none⟩ = some (.int .i64 ox.x.give.w.ex) := by rw [k3.cell]; rfl
      have u9 : x3.cell? ⟨tb, 9, none⟩ = some (.bool ox.x.give.c.neg) := by rw [k3.cell]; rfl
      have u10 : x3.cell? ⟨tb, 10, none⟩ = some (.slice ox.X2 ox.x.give.c.ls.length ox.c2) := by rw [k3.cell]; rfl
      have u11 : x3.cell? ⟨tb, 11, none⟩ = some (.int .i64 ox.x.give.c.ex) := by rw [k3.cell]; rfl
      have u12 : x3.cell? ⟨tb, 12, none⟩ = some (.bool ox.x.give.a.neg) := by rw [k3.cell]; rfl
      have u13 : x3.cell? ⟨tb, 13, none⟩ = some (.slice ox.X3 ox.x.give.a.ls.length ox.c3) := by rw [k3.cell]; rfl
      have u14 : x3.cell? ⟨tb, 14, none⟩ = some (.int .i64 ox.x.give.a.ex) := by rw [k3.cell]; rfl
      go_wp2_with fail
      clear u0 u1 u2 u3 u4 u5 u6 u7 u8 u9 u10 u11 u12 u13 u14
      refine (none_any ox (by rw [gxz.out]; exact zE_sm) x3 _ u3.out true (.inr ⟨rfl, gxz.out⟩)).mono ?_
      rintro en x4 ⟨rfl, hb4⟩
      have hB5 := hB4.trans (hb4.mono hB4.size)
      have rT4 := Lib.hid (Recs.more (Recs.below rT3.out hb4) hb4.size)
      clear rT3 rT k3 k9
      go_wp2
      go_roundw
      case rel => exact ⟨k + 1, cp', B, A2, n2, c2, ln', rfl, rfl, rfl, by go_num, by omega, gS', gK', rT4, hB5⟩
      case measure => simp [intOf]; omega
    · subst hBf
      have gS' := Lib.hid hS'
      have gsX : Hid (smM ox.x.give) := Lib.hid (by rw [hxg]; exact gsx.out)
      have gnf := Lib.hid hxc
      have eN : (ox.x.nu == N) = true := by rw [hxn]; simp
      have ee : (ox.x.ep == e) = true := by rw [hxe]; simp
      have gxg := Lib.hid hxg
      clear hxn hxe hxg hxc hS'
      refine (none_any ox gsX.out wc _ ux.out false (.inl ⟨rfl, gnf.out⟩)).mono ?_
      rintro en x3 ⟨rfl, hb3⟩
      have k3 := k9.out.below hb3 k9.out.lt
      have hB4 := hB9.trans (hb3.mono hB9.size)
      have rT3 := Lib.hid (Recs.more (Recs.below rT.out hb3) hb3.size)
      have u3 := Lib.hid (ux.out.map (fun h => h.below hb3))
      have hB4w := hBx.trans (hB4.mono hBx.size)
      obtain ⟨a0, a1, a2, a3, a4, a5, a6, a7, a8, a9, a10, a11⟩ := gCel.out _ hB4w
      have u0 : x3.cell? ⟨tb, 0, none⟩ = some (.int .i64 ox.x.nu) := by rw [k3.cell]; rfl
      have u1 : x3.cell? ⟨tb, 1, none⟩ = some (.int .i64 ox.x.ep) := by rw [k3.cell]; rfl
      have u2 : x3.cell? ⟨tb, 2, none⟩ = some (.int .i64 ox.x.cp) := by rw [k3.cell]; rfl
      have u3 : x3.cell? ⟨tb, 3, none⟩ = some (.bool ox.x.give.s.neg) := by rw [k3.cell]; rfl
      have u4 : x3.cell? ⟨tb, 4, none⟩ = some (.slice ox.X0 ox.x.give.s.ls.length ox.c0) := by rw [k3.cell]; rfl
      have u5 : x3.cell? ⟨tb, 5, none⟩ = some (.int .i64 ox.x.give.s.ex) := by rw [k3.cell]; rfl
      have u6 : x3.cell? ⟨tb, 6, none⟩ = some (.bool ox.x.give.w.neg) := by rw [k3.cell]; rfl
      have u7 : x3.cell? ⟨tb, 7, none⟩ = some (.slice ox.X1 ox.x.give.w.ls.length ox.c1) := by rw [k3.cell]; rfl
      have u8 : x3.cell? ⟨tb, 8, none⟩ = some (.int .i64 ox.x.give.w.ex) := by rw [k3.cell]; rfl
      have u9 : x3.cell? ⟨tb, 9, none⟩ = some (.bool ox.x.give.c.neg) := by rw [k3.cell]; rfl
      have u10 : x3.cell? ⟨tb, 10, none⟩ = some (.slice ox.X2 ox.x.give.c.ls.length ox.c2) := by rw [k3.cell]; rfl
      have u11 : x3.cell? ⟨tb, 11, none⟩ = some (.int .i64 ox.x.give.c.ex) := by rw [k3.cell]; rfl
      have u12 : x3.cell? ⟨tb, 12, none⟩ = some (.bool ox.x.give.a.neg) := by rw [k3.cell]; rfl
      have u13 : x3.cell? ⟨tb, 13, none⟩ = some (.slice ox.X3 ox.x.give.a.ls.length ox.c3) := by rw [k3.cell]; rfl
      have u14 : x3.cell? ⟨tb, 14, none⟩ = some (.int .i64 ox.x.give.a.ex) := by rw [k3.cell]; rfl
      go_wp2_with fail
      clear u0 u1 u2 u3 u4 u5 u6 u7 u8 u9 u10 u11 u12 u13 u14
      clear a0 a1 a2 a3 a4 a5 a6 a7 a8 a9 a10 a11
      refine (msame_any _ _ _ _ _ _ _ _ _ _ _ _ _ _ _ _ _ _ _ _ _ _ _ _ _ _ _ _ _ _ _ _ _ _ _ _ _ _ _ _  ox.x.give mx gsX.out gsx.out x3 u3.out.rdM (gXm.out _ hB4w) true (decide_eq_true gxg.out)).mono ?_
      rintro en x4 ⟨rfl, hb4⟩
      have k4 := k3.below hb4 k3.lt
      have hB5 := hB4.trans (hb4.mono hB4.size)
      have rT4 := Lib.hid (Recs.more (Recs.below rT3.out hb4) hb4.size)
      have u4 := Lib.hid (u3.out.map (fun h => h.below hb4))
      clear eN ee
      have u0 : x4.cell? ⟨tb, 0, none⟩ = some (.int .i64 ox.x.nu) := by rw [k4.cell]; rfl
      have u1 : x4.cell? ⟨tb, 1, none⟩ = some (.int .i64 ox.x.ep) := by rw [k4.cell]; rfl
      have u2 : x4.cell? ⟨tb, 2, none⟩ = some (.int .i64 ox.x.cp) := by rw [k4.cell]; rfl
      have u3 : x4.cell? ⟨tb, 3, none⟩ = some (.bool ox.x.give.s.neg) := by rw [k4.cell]; rfl
      have u4 : x4.cell? ⟨tb, 4, none⟩ = some (.slice ox.X0 ox.x.give.s.ls.length ox.c0) := by rw [k4.cell]; rfl
      have u5 : x4.cell? ⟨tb, 5, none⟩ = some (.int .i64 ox.x.give.s.ex) := by rw [k4.cell]; rfl
      have u6 : x4.cell? ⟨tb, 6, none⟩ = some (.bool ox.x.give.w.neg) := by rw [k4.cell]; rfl
      have u7 : x4.cell? ⟨tb, 7, none⟩ = some (.slice ox.X1 ox.x.give.w.ls.length ox.c1) := by rw [k4.cell]; rfl
      have u8 : x4.cell? ⟨tb, 8, none⟩ = some (.int .i64 ox.x.give.w.ex) := by rw [k4.cell]; rfl
      have u9 : x4.cell? ⟨tb, 9, none⟩ = some (.bool ox.x.give.c.neg) := by rw [k4.cell]; rfl
      have u10 : x4.cell? ⟨tb, 10, none⟩ = some (.slice ox.X2 ox.x.give.c.ls.length ox.c2) := by rw [k4.cell]; rfl
      have u11 : x4.cell? ⟨tb, 11, none⟩ = some (.int .i64 ox.x.give.c.ex) := by rw [k4.cell]; rfl
      have u12 : x4.cell? ⟨tb, 12, none⟩ = some (.bool ox.x.give.a.neg) := by rw [k4.cell]; rfl
      have u13 : x4.cell? ⟨tb, 13, none⟩ = some (.slice ox.X3 ox.x.give.a.ls.length ox.c3) := by rw [k4.cell]; rfl
      have u14 : x4.cell? ⟨tb, 14, none⟩ = some (.int .i64 ox.x.give.a.ex) := by rw [k4.cell]; rfl
      go_wp2_with fail
      clear u0 u1 u2 u3 u4 u5 u6 u7 u8 u9 u10 u11 u12 u13 u14
      refine (none_any ox gsX.out x4 _ u4.out false (.inl ⟨rfl, gnf.out⟩)).mono ?_
      rintro en x5 ⟨rfl, hb5⟩
      have hB6 := hB5.trans (hb5.mono hB5.size)
      have rT5 := Lib.hid (Recs.more (Recs.below rT4.out hb5) hb5.size)
      clear rT3 rT4 rT k3 k4 k9
      go_wp2
      go_roundw
      case rel => exact ⟨k + 1, cp', true, A2, n2, c2, ln', rfl, rfl, (by simp [bI, wrap64]), by go_num, by omega, gS', gK', rT5, hB6⟩
      case measure => simp [intOf]; omega
end Go.Proofs.Ytdmjdpaehnhdoaa
