/- Flight: the walk of FlightTells -/
import Derived.Test.YtdmjdpaehnhdoaaND
import Derived.Test.YtdmjdpaehnhdoaaNE
import Derived.Test.YtdmjdpaehnhdoaaLI
import Derived.Test.YtdmjdpaehnhdoaaLG
import Derived.Test.YtdmjdpaehnhdoaaLH
import Derived.Test.YtdmjdpaehnhdoaaLN
import Derived.Test.YtdmjdpaehnhdoaaLY
namespace Go.Proofs.Ytdmjdpaehnhdoaa
open Go.ChangeShapes Go.WideShapes Go.ChangeAt Go.RowKit
set_option linter.unusedSimpArgs false
set_option linter.unusedVariables false
theorem fine_sm {l : List En} (h : fine l) : ∀ x ∈ l, smM x.give := fun x hx => by
  have := h x hx
  unfold smM
  omega
theorem grM_sm {m : Ms} (h : grM m.s.ls.length m.s.ex m.w.ls.length m.w.ex m.c.ls.length m.c.ex m.a.ls.length m.a.ex = false) : smM m := by
  have := grM_no h
  unfold smM
  omega
/-- A mass is stored into a box. -/
def b12 (w : World) (g : Nat) (u0 u1 u2 u3 u4 u5 u6 u7 u8 u9 u10 u11 : Value) : World := (((((((((((w.setCell ⟨g, 0, none⟩ u0).setCell ⟨g, 1, none⟩ u1).setCell ⟨g, 2, none⟩ u2).setCell ⟨g, 3, none⟩ u3).setCell ⟨g, 4, none⟩ u4).setCell ⟨g, 5, none⟩ u5).setCell ⟨g, 6, none⟩ u6).setCell ⟨g, 7, none⟩ u7).setCell ⟨g, 8, none⟩ u8).setCell ⟨g, 9, none⟩ u9).setCell ⟨g, 10, none⟩ u10).setCell ⟨g, 11, none⟩ u11
theorem b12_fr (w : World) (g : Nat) (u0 u1 u2 u3 u4 u5 u6 u7 u8 u9 u10 u11 : Value) : Fr (fun b => b = g) w (b12 w g u0 u1 u2 u3 u4 u5 u6 u7 u8 u9 u10 u11) := by
  unfold b12
  exact (((((((((((Fr.set_ (S := fun b => b = g) w (p := ⟨g, 0, none⟩) rfl u0).trans (Fr.set_ (S := fun b => b = g) _ (p := ⟨g, 1, none⟩) rfl u1)).trans (Fr.set_ (S := fun b => b = g) _ (p := ⟨g, 2, none⟩) rfl u2)).trans (Fr.set_ (S := fun b => b = g) _ (p := ⟨g, 3, none⟩) rfl u3)).trans (Fr.set_ (S := fun b => b = g) _ (p := ⟨g, 4, none⟩) rfl u4)).trans (Fr.set_ (S := fun b => b = g) _ (p := ⟨g, 5, none⟩) rfl u5)).trans (Fr.set_ (S := fun b => b = g) _ (p := ⟨g, 6, none⟩) rfl u6)).trans (Fr.set_ (S := fun b => b = g) _ (p := ⟨g, 7, none⟩) rfl u7)).trans (Fr.set_ (S := fun b => b = g) _ (p := ⟨g, 8, none⟩) rfl u8)).trans (Fr.set_ (S := fun b => b = g) _ (p := ⟨g, 9, none⟩) rfl u9)).trans (Fr.set_ (S := fun b => b = g) _ (p := ⟨g, 10, none⟩) rfl u10)).trans (Fr.set_ (S := fun b => b = g) _ (p := ⟨g, 11, none⟩) rfl u11)
theorem b12_blk {w : World} {g : Nat} (h : Blk w g 27 #[.bool false, .slice none 0 0, .int .i64 0, .bool false, .slice none 0 0, .int .i64 0, .bool false, .slice none 0 0, .int .i64 0, .bool false, .slice none 0 0, .int .i64 0]) (u0 u1 u2 u3 u4 u5 u6 u7 u8 u9 u10 u11 : Value) : Blk (b12 w g u0 u1 u2 u3 u4 u5 u6 u7 u8 u9 u10 u11) g 27 #[u0, u1, u2, u3, u4, u5, u6, u7, u8, u9, u10, u11] := blk12 h u0 u1 u2 u3 u4 u5 u6 u7 u8 u9 u10 u11
/-- Behind the copies of the loads and of the mass. -/
structure Mid (w2 : World) (n : Nat) (l : List En) (mx : Ms) (s9 s10 : Value) (wx : World) : Prop where
  out : ∃ (Ao : Option Addr) (co : Nat) (oW : List EO) (g : Nat) (om : EO), s9 = .slice Ao n co ∧ s10 = .pointer (some ⟨g, 0, none⟩) ∧ oW.map (·.x) = l ∧ om.x.give = mx ∧ RowE wx w2.heap.size Ao n co oW ∧ ownE wx w2.heap.size om ∧ Blk wx g 27 #[.bool om.x.give.s.neg, .slice om.X0 om.x.give.s.ls.length om.c0, .int .i64 om.x.give.s.ex, .bool om.x.give.w.neg, .slice om.X1 om.x.give.w.ls.length om.c1, .int .i64 om.x.give.w.ex, .bool om.x.give.c.neg, .slice om.X2 om.x.give.c.ls.length om.c2, .int .i64 om.x.give.c.ex, .bool om.x.give.a.neg, .slice om.X3 om.x.give.a.ls.length om.c3, .int .i64 om.x.give.a.ex] ∧ w2.heap.size ≤ g ∧ Below w2.heap.size w2 wx
theorem mid_done {w2 wx : World} {n co : Nat} {l : List En} {mx : Ms} {Ao : Option Addr} {oW : List EO} {om : EO} (X : World) (g : Nat) (hw : b12 X g (.bool om.x.give.s.neg) (.slice om.X0 om.x.give.s.ls.length om.c0) (.int .i64 om.x.give.s.ex) (.bool om.x.give.w.neg) (.slice om.X1 om.x.give.w.ls.length om.c1) (.int .i64 om.x.give.w.ex) (.bool om.x.give.c.neg) (.slice om.X2 om.x.give.c.ls.length om.c2) (.int .i64 om.x.give.c.ex) (.bool om.x.give.a.neg) (.slice om.X3 om.x.give.a.ls.length om.c3) (.int .i64 om.x.give.a.ex) = wx) (h1 : oW.map (·.x) = l) (h2 : om.x.give = mx) (h3 : RowE X w2.heap.size Ao n co oW) (h4 : ownE X w2.heap.size om) (h5 : Blk X g 27 #[.bool false, .slice none 0 0, .int .i64 0, .bool false, .slice none 0 0, .int .i64 0, .bool false, .slice none 0 0, .int .i64 0, .bool false, .slice none 0 0, .int .i64 0]) (h6 : w2.heap.size ≤ g) (h7 : Below w2.heap.size w2 X) : Mid w2 n l mx (.slice Ao n co) (.pointer (some ⟨g, 0, none⟩)) wx := by
  subst hw
  refine ⟨Ao, co, oW, g, om, rfl, rfl, h1, h2, ?_, ?_, b12_blk h5 (.bool om.x.give.s.neg) (.slice om.X0 om.x.give.s.ls.length om.c0) (.int .i64 om.x.give.s.ex) (.bool om.x.give.w.neg) (.slice om.X1 om.x.give.w.ls.length om.c1) (.int .i64 om.x.give.w.ex) (.bool om.x.give.c.neg) (.slice om.X2 om.x.give.c.ls.length om.c2) (.int .i64 om.x.give.c.ex) (.bool om.x.give.a.neg) (.slice om.X3 om.x.give.a.ls.length om.c3) (.int .i64 om.x.give.a.ex), h6, h7.trans ((b12_fr X g (.bool om.x.give.s.neg) (.slice om.X0 om.x.give.s.ls.length om.c0) (.int .i64 om.x.give.s.ex) (.bool om.x.give.w.neg) (.slice om.X1 om.x.give.w.ls.length om.c1) (.int .i64 om.x.give.w.ex) (.bool om.x.give.c.neg) (.slice om.X2 om.x.give.c.ls.length om.c2) (.int .i64 om.x.give.c.ex) (.bool om.x.give.a.neg) (.slice om.X3 om.x.give.a.ls.length om.c3) (.int .i64 om.x.give.a.ex)).below (fun b hb => by rw [hb]; exact h6))⟩
  · refine h3.fr (b12_fr X g (.bool om.x.give.s.neg) (.slice om.X0 om.x.give.s.ls.length om.c0) (.int .i64 om.x.give.s.ex) (.bool om.x.give.w.neg) (.slice om.X1 om.x.give.w.ls.length om.c1) (.int .i64 om.x.give.w.ex) (.bool om.x.give.c.neg) (.slice om.X2 om.x.give.c.ls.length om.c2) (.int .i64 om.x.give.c.ex) (.bool om.x.give.a.neg) (.slice om.X3 om.x.give.a.ls.length om.c3) (.int .i64 om.x.give.a.ex)) (fun b hb e => ?_)
    subst e
    rcases hb with hA | ⟨o, ho, hb⟩
    · rcases h3.1.2 with ⟨p, _⟩ | ⟨g', cap, cur, p, _, q, _⟩
      · injection p with p
        rw [hA] at p; cases p
      · injection p with p
        rw [hA] at p
        injection p with p
        injection p with p
        subst p
        exact absurd rfl (Blk.ne_ (show Blk X _ 40 cur from q) h5 (by decide))
    · obtain ⟨_, cur, hb2⟩ := (h3.2 o ho).has hb
      exact absurd rfl (Blk.ne_ hb2 h5 (by decide))
  · refine h4.fr (b12_fr X g (.bool om.x.give.s.neg) (.slice om.X0 om.x.give.s.ls.length om.c0) (.int .i64 om.x.give.s.ex) (.bool om.x.give.w.neg) (.slice om.X1 om.x.give.w.ls.length om.c1) (.int .i64 om.x.give.w.ex) (.bool om.x.give.c.neg) (.slice om.X2 om.x.give.c.ls.length om.c2) (.int .i64 om.x.give.c.ex) (.bool om.x.give.a.neg) (.slice om.X3 om.x.give.a.ls.length om.c3) (.int .i64 om.x.give.a.ex)) (fun b hb e => ?_)
    subst e
    obtain ⟨_, cur, hb2⟩ := h4.has hb
    exact absurd rfl (Blk.ne_ hb2 h5 (by decide))
theorem mid_new {w2 wx : World} {n co : Nat} {l : List En} {mx : Ms} {Ao : Option Addr} {oW : List EO} {om : EO} (g : Nat) (h1 : oW.map (·.x) = l) (h2 : om.x.give = mx) (h3 : RowE wx w2.heap.size Ao n co oW) (h4 : ownE wx w2.heap.size om) (h5 : Blk wx g 27 #[.bool om.x.give.s.neg, .slice om.X0 om.x.give.s.ls.length om.c0, .int .i64 om.x.give.s.ex, .bool om.x.give.w.neg, .slice om.X1 om.x.give.w.ls.length om.c1, .int .i64 om.x.give.w.ex, .bool om.x.give.c.neg, .slice om.X2 om.x.give.c.ls.length om.c2, .int .i64 om.x.give.c.ex, .bool om.x.give.a.neg, .slice om.X3 om.x.give.a.ls.length om.c3, .int .i64 om.x.give.a.ex]) (h6 : w2.heap.size ≤ g) (h7 : Below w2.heap.size w2 wx) : Mid w2 n l mx (.slice Ao n co) (.pointer (some ⟨g, 0, none⟩)) wx :=
  ⟨Ao, co, oW, g, om, rfl, rfl, h1, h2, h3, h4, h5, h6, h7⟩
theorem rowE_base {w : World} {B b n c : Nat} {A : Option Addr} {os : List EO} (h : RowE w B A n c os) (hb : b ≤ B) : RowE w b A n c os := ⟨own_base_le h.1 hb, fun o ho => (h.2 o ho).map (fun h => h.base_le hb)⟩
def fstC : Code → Code
  | .seq a _ => a
  | c => c
def sndC : Code → Code
  | .seq _ b => b
  | c => c
set_option maxRecDepth 100000 in
set_option maxHeartbeats 64000000 in
theorem tells_three (A : Option Addr) (n : Nat) (c : Nat) (l : List En) (N : Int) (e : Int) (bX0 : Option Addr) (bc0 : Nat) (bX1 : Option Addr) (bc1 : Nat) (bX2 : Option Addr) (bc2 : Nat) (bX3 : Option Addr) (bc3 : Nat) (mx : Ms) (w : World) (w2 : World) (wc : World) (x1 : World) (x2 : World) (x3 : World) (x4 : World) (x5 : World) (y5 : World) (x6 : World) (y6 : World) (x7 : World) (y7 : World) (x8 : World) (y8 : World) (x9 : World) (x10 : World) (x11 : World) (x12 : World) (x13 : World) (x14 : World) (x15 : World) (x16 : World) (Ao : Option Addr) (co : Nat) (oW : List EO) (g : Nat) (om : EO) (Ara : Option Addr) (nra : Nat) (cra : Nat) (ora : List EO) (Arb : Option Addr) (nrb : Nat) (crb : Nat) (orb : List EO) (Arc : Option Addr) (nrc : Nat) (crc : Nat) (orc : List EO) (Ard : Option Addr) (nrd : Nat) (crd : Nat) (ord : List EO) (Arp : Option Addr) (nrp : Nat) (crp : Nat) (orp : List EO) (Arq : Option Addr) (nrq : Nat) (crq : Nat) (orq : List EO) (Ars : Option Addr) (nrs : Nat) (crs : Nat) (ors : List EO) (Art : Option Addr) (nrt : Nat) (crt : Nat) (ort : List EO) (lra : List En) (Era : Int) (lrc : List En) (Erc : Int) (lrp : List En) (Erp : Int) (lrs : List En) (Ers : Int) (zrp : En) (zrs : En) (ox : EO) (tx : Nat) (oy : EO) (ty : Nat) (ov : EO) (tv : Nat) (oz : EO) (tz : Nat) (hnc : n ≤ c) (hnx : n ≤ maxLen) (hn10 : n ≤ 10000) (gln : Hid (l.length = n)) (gs : Hid (∀ x ∈ l, smM x.give)) (gsx : Hid (smM mx)) (gl20 : Hid (l.length ≤ 20)) (gL : Hid (∀ v', Below w2.heap.size w2 v' → Ens v' v'.heap.size A n l)) (gXm : Hid (∀ v', Below w2.heap.size w2 v' → RdM v' v'.heap.size mx.s.neg bX0 mx.s.ls.length bc0 mx.s.ex mx.w.neg bX1 mx.w.ls.length bc1 mx.w.ex mx.c.neg bX2 mx.c.ls.length bc2 mx.c.ex mx.a.neg bX3 mx.a.ls.length bc3 mx.a.ex mx)) (gCel : Hid (∀ w', Below w2.heap.size w2 w' → w'.cell? ⟨w.heap.size, 0, none⟩ = some (.bool mx.s.neg) ∧ w'.cell? ⟨w.heap.size, 1, none⟩ = some (.slice bX0 mx.s.ls.length bc0) ∧ w'.cell? ⟨w.heap.size, 2, none⟩ = some (.int .i64 mx.s.ex) ∧ w'.cell? ⟨w.heap.size, 3, none⟩ = some (.bool mx.w.neg) ∧ w'.cell? ⟨w.heap.size, 4, none⟩ = some (.slice bX1 mx.w.ls.length bc1) ∧ w'.cell? ⟨w.heap.size, 5, none⟩ = some (.int .i64 mx.w.ex) ∧ w'.cell? ⟨w.heap.size, 6, none⟩ = some (.bool mx.c.neg) ∧ w'.cell? ⟨w.heap.size, 7, none⟩ = some (.slice bX2 mx.c.ls.length bc2) ∧ w'.cell? ⟨w.heap.size, 8, none⟩ = some (.int .i64 mx.c.ex) ∧ w'.cell? ⟨w.heap.size, 9, none⟩ = some (.bool mx.a.neg) ∧ w'.cell? ⟨w.heap.size, 10, none⟩ = some (.slice bX3 mx.a.ls.length bc3) ∧ w'.cell? ⟨w.heap.size, 11, none⟩ = some (.int .i64 mx.a.ex))) (hB2 : Below w.heap.size w w2) (gB : Hid (Below w2.heap.size w2 x16)) (sB : w2.heap.size ≤ wc.heap.size) (eW : Hid (oW.map (·.x) = l)) (em : Hid (om.x.give = mx)) (gkW : Hid ((∀ x ∈ l, smM x.give) ∧ l.length ≤ 1000)) (sx1 : wc.heap.size ≤ x1.heap.size) (sx2 : x1.heap.size ≤ x2.heap.size) (sx3 : x2.heap.size ≤ x3.heap.size) (sx4 : x3.heap.size ≤ x4.heap.size) (sx5 : x4.heap.size ≤ x5.heap.size) (sy5 : x5.heap.size ≤ y5.heap.size) (sx6 : y5.heap.size ≤ x6.heap.size) (sy6 : x6.heap.size ≤ y6.heap.size) (sx7 : y6.heap.size ≤ x7.heap.size) (sy7 : x7.heap.size ≤ y7.heap.size) (sx8 : y7.heap.size ≤ x8.heap.size) (sy8 : x8.heap.size ≤ y8.heap.size) (sx9 : y8.heap.size ≤ x9.heap.size) (sx10 : x9.heap.size ≤ x10.heap.size) (sx11 : x10.heap.size ≤ x11.heap.size) (sx12 : x11.heap.size ≤ x12.heap.size) (sx13 : x12.heap.size ≤ x13.heap.size) (sx14 : x13.heap.size ≤ x14.heap.size) (sx15 : x14.heap.size ≤ x15.heap.size) (sx16 : x15.heap.size ≤ x16.heap.size) (gkA : Hid ((∀ x ∈ lra, smM x.give) ∧ lra.length ≤ 1000)) (gkC : Hid ((∀ x ∈ lrc, smM x.give) ∧ lrc.length ≤ 1000)) (gkP : Hid ((∀ x ∈ lrp, smM x.give) ∧ lrp.length ≤ 1000)) (gkS : Hid ((∀ x ∈ lrs, smM x.give) ∧ lrs.length ≤ 1000)) (gxP : Hid (smM zrp.give)) (gxS : Hid (smM zrs.give)) (qEA : (Era == Era) = true) (qEC : (Erc == Erc) = true) (qEP : (Erp == Erp) = true) (qES : (Ers == Ers) = true) (hW : Hid (RowE x16 w2.heap.size Ao n co oW)) (iW : Hid (∀ g, SB Ao n oW g → w2.heap.size ≤ g ∧ g < wc.heap.size)) (hra : Hid (RowE x16 wc.heap.size Ara nra cra ora)) (ira : Hid (∀ g, SB Ara nra ora g → wc.heap.size ≤ g ∧ g < x1.heap.size)) (era : Hid (ora.map (·.x) = lra)) (qra : nra ≤ 1000) (hrc : Hid (RowE x16 x2.heap.size Arc nrc crc orc)) (irc : Hid (∀ g, SB Arc nrc orc g → x2.heap.size ≤ g ∧ g < x3.heap.size)) (erc : Hid (orc.map (·.x) = lrc)) (qrc : nrc ≤ 1000) (hrp : Hid (RowE x16 x4.heap.size Arp nrp crp orp)) (irp : Hid (∀ g, SB Arp nrp orp g → x4.heap.size ≤ g ∧ g < x5.heap.size)) (erp : Hid (orp.map (·.x) = lrp)) (qrp : nrp ≤ 1000) (hrs : Hid (RowE x16 y6.heap.size Ars nrs crs ors)) (irs : Hid (∀ g, SB Ars nrs ors g → y6.heap.size ≤ g ∧ g < x7.heap.size)) (ers : Hid (ors.map (·.x) = lrs)) (qrs : nrs ≤ 1000) (um : Hid (ownE x16 w2.heap.size om)) (jm : Hid (∀ g, hasB om g → w2.heap.size ≤ g ∧ g < wc.heap.size)) (ux : Hid (ownE x16 x4.heap.size ox)) (jx : Hid (∀ g, hasB ox g → x4.heap.size ≤ g ∧ g < x5.heap.size)) (apx : Hid (∀ g, SB Arp nrp orp g → hasB ox g → False)) (fx : Hid (ox.x = zrp)) (uy : Hid (ownE x16 y5.heap.size oy)) (jy : Hid (∀ g, hasB oy g → y5.heap.size ≤ g ∧ g < x6.heap.size)) (apy : Hid (∀ g, SB Arq nrq orq g → hasB oy g → False)) (fy : Hid (oy.x = zrp)) (uv : Hid (ownE x16 y6.heap.size ov)) (jv : Hid (∀ g, hasB ov g → y6.heap.size ≤ g ∧ g < x7.heap.size)) (apv : Hid (∀ g, SB Ars nrs ors g → hasB ov g → False)) (fv : Hid (ov.x = zrs)) (km : Hid (Blk x16 g 27 #[.bool om.x.give.s.neg, .slice om.X0 om.x.give.s.ls.length om.c0, .int .i64 om.x.give.s.ex, .bool om.x.give.w.neg, .slice om.X1 om.x.give.w.ls.length om.c1, .int .i64 om.x.give.w.ex, .bool om.x.give.c.neg, .slice om.X2 om.x.give.c.ls.length om.c2, .int .i64 om.x.give.c.ex, .bool om.x.give.a.neg, .slice om.X3 om.x.give.a.ls.length om.c3, .int .i64 om.x.give.a.ex])) (nm : Hid (w2.heap.size ≤ g ∧ g < wc.heap.size)) (kx : Hid (Blk x16 tx 40 #[.int .i64 ox.x.nu, .int .i64 ox.x.ep, .int .i64 ox.x.cp, .bool ox.x.give.s.neg, .slice ox.X0 ox.x.give.s.ls.length ox.c0, .int .i64 ox.x.give.s.ex, .bool ox.x.give.w.neg, .slice ox.X1 ox.x.give.w.ls.length ox.c1, .int .i64 ox.x.give.w.ex, .bool ox.x.give.c.neg, .slice ox.X2 ox.x.give.c.ls.length ox.c2, .int .i64 ox.x.give.c.ex, .bool ox.x.give.a.neg, .slice ox.X3 ox.x.give.a.ls.length ox.c3, .int .i64 ox.x.give.a.ex])) (nx : Hid (tx = x5.heap.size ∧ tx < y5.heap.size)) (ky : Hid (Blk x16 ty 40 #[.int .i64 oy.x.nu, .int .i64 oy.x.ep, .int .i64 oy.x.cp, .bool oy.x.give.s.neg, .slice oy.X0 oy.x.give.s.ls.length oy.c0, .int .i64 oy.x.give.s.ex, .bool oy.x.give.w.neg, .slice oy.X1 oy.x.give.w.ls.length oy.c1, .int .i64 oy.x.give.w.ex, .bool oy.x.give.c.neg, .slice oy.X2 oy.x.give.c.ls.length oy.c2, .int .i64 oy.x.give.c.ex, .bool oy.x.give.a.neg, .slice oy.X3 oy.x.give.a.ls.length oy.c3, .int .i64 oy.x.give.a.ex])) (ny : Hid (ty = x6.heap.size ∧ ty < y6.heap.size)) (kv : Hid (Blk x16 tv 40 #[.int .i64 ov.x.nu, .int .i64 ov.x.ep, .int .i64 ov.x.cp, .bool ov.x.give.s.neg, .slice ov.X0 ov.x.give.s.ls.length ov.c0, .int .i64 ov.x.give.s.ex, .bool ov.x.give.w.neg, .slice ov.X1 ov.x.give.w.ls.length ov.c1, .int .i64 ov.x.give.w.ex, .bool ov.x.give.c.neg, .slice ov.X2 ov.x.give.c.ls.length ov.c2, .int .i64 ov.x.give.c.ex, .bool ov.x.give.a.neg, .slice ov.X3 ov.x.give.a.ls.length ov.c3, .int .i64 ov.x.give.a.ex])) (nv : Hid (tv = x7.heap.size ∧ tv < y7.heap.size)) (body3 : Code) (hb3 : Try.f3.body = some body3) (s3 s4 s5 s6 s12 s13 s14 s16 s17 s18 s21 s22 s24 s27 s28 s29 s30 s33 s34 s35 s36 s37 s38 s39 s40 s41 s42 s43 s44 s45 s46 s47 s48 s49 s50 s51 s52 s53 s54 s55 s56 s57 s58 s59 s60 s61 s62 s63 s64 s65 s66 s67 s68 s69 s70 s71 s72 s73 s74 s75 s76 s77 s78 s79 s80 s81 s82 s83 s84 s85 s86 s87 s88 s89 s90 s91 s92 s93 s94 s95 s96 s97 s98 s99 s100 s101 s102 s103 s104 s105 s106 s107 s108 s109 s110 s111 s112 s113 s114 s115 s116 s117 s118 s119 s120 s121 s122 s123 s124 s125 s126 s127 s128 s129 s130 s131 s132 s133 s134 s135 s136 s137 s138 s139 s140 s141 s142 s143 s144 s145 s146 s147 s148 s149 s150 s151 s152 s153 s154 s155 s156 s157 s158 s159 s160 s161 s162 s163 s164 s165 s166 s167 s168 s169 s170 s171 s172 s173 s174 s175 s176 s177 s178 s179 s180 s181 s182 s183 s184 s185 : Value) (K : Act → World → Prop) (Q : Exit → Act → World → Prop) (hQ : Q = bodyPost Try.prog Try.f3 fun en w' => en = .returned (.bool true) ∧ Below w.heap.size w w') (hK : ∀ a w, Code.wp Try.prog (sndC (sndC (sndC (sndC (sndC (sndC (sndC (sndC (sndC (sndC (sndC (sndC (sndC (sndC (body3))))))))))))))) Q a w → K a w) : Code.wp Try.prog (fstC (sndC (sndC (sndC (sndC (sndC (sndC (sndC (sndC (sndC (sndC (sndC (sndC (sndC (body3))))))))))))))) (Exit.then K Q) { tmps := #[.slice A n c, .int .i64 N, .int .i64 e, s3, s4, s5, s6, .pointer (some ⟨w.heap.size, 0, none⟩), .bool false, .slice Ao n co, .pointer (some ⟨g, 0, none⟩), .slice Ara nra cra, s12, s13, s14, .slice Arc nrc crc, s16, s17, s18, .slice Arp nrp crp, .pointer (some ⟨tx, 0, none⟩), s21, s22, .pointer (some ⟨ty, 0, none⟩), s24, .slice Ars nrs crs, .pointer (some ⟨tv, 0, none⟩), s27, s28, s29, s30, .bool true, .bool true, s33, s34, s35, s36, s37, s38, s39, s40, s41, s42, s43, s44, s45, s46, s47, s48, s49, s50, s51, s52, s53, s54, s55, s56, s57, s58, s59, s60, s61, s62, s63, s64, s65, s66, s67, s68, s69, s70, s71, s72, s73, s74, s75, s76, s77, s78, s79, s80, s81, s82, s83, s84, s85, s86, s87, s88, s89, s90, s91, s92, s93, s94, s95, s96, s97, s98, s99, s100, s101, s102, s103, s104, s105, s106, s107, s108, s109, s110, s111, s112, s113, s114, s115, s116, s117, s118, s119, s120, s121, s122, s123, s124, s125, s126, s127, s128, s129, s130, s131, s132, s133, s134, s135, s136, s137, s138, s139, s140, s141, s142, s143, s144, s145, s146, s147, s148, s149, s150, s151, s152, s153, s154, s155, s156, s157, s158, s159, s160, s161, s162, s163, s164, s165, s166, s167, s168, s169, s170, s171, s172, s173, s174, s175, s176, s177, s178, s179, s180, s181, s182, s183, s184, s185], defers := [] } x16 := by
  dsimp only [Try.f3] at hb3
  injection hb3 with hb3
  subst hb3
  dsimp only [fstC, sndC] at hK ⊢
  subst hQ
  go_wp2_with fail
  refine (lspoil_any (SB Ara nra ora) Ara nra cra _ (by omega) gkA.out.1 x16 (hra.out.wr era.out)).mono ?_
  rintro en x17 ⟨rfl, hf⟩
  clear hra
  have sx17 : x16.heap.size ≤ x17.heap.size := Nat.le_of_eq hf.2.1.symm
  replace hW := Lib.hid (hW.out.fr hf (fun g hg hs => by have h1 := iW.out g hg; have h2 := ira.out g hs; omega))
  replace hrc := Lib.hid (hrc.out.fr hf (fun g hg hs => by have h1 := irc.out g hg; have h2 := ira.out g hs; omega))
  replace hrp := Lib.hid (hrp.out.fr hf (fun g hg hs => by have h1 := irp.out g hg; have h2 := ira.out g hs; omega))
  replace hrs := Lib.hid (hrs.out.fr hf (fun g hg hs => by have h1 := irs.out g hg; have h2 := ira.out g hs; omega))
  replace um := Lib.hid (um.out.fr hf (fun g hg hs => by have h1 := jm.out g hg; have h2 := ira.out g hs; omega))
  replace ux := Lib.hid (ux.out.fr hf (fun g hg hs => by have h1 := jx.out g hg; have h2 := ira.out g hs; omega))
  replace uy := Lib.hid (uy.out.fr hf (fun g hg hs => by have h1 := jy.out g hg; have h2 := ira.out g hs; omega))
  replace uv := Lib.hid (uv.out.fr hf (fun g hg hs => by have h1 := jv.out g hg; have h2 := ira.out g hs; omega))
  replace km := Lib.hid (hf.blk (fun hs => by have h1 := nm.out; have h2 := ira.out _ hs; omega) km.out)
  replace kx := Lib.hid (hf.blk (fun hs => by have h1 := nx.out; have h2 := ira.out _ hs; omega) kx.out)
  replace ky := Lib.hid (hf.blk (fun hs => by have h1 := ny.out; have h2 := ira.out _ hs; omega) ky.out)
  replace kv := Lib.hid (hf.blk (fun hs => by have h1 := nv.out; have h2 := ira.out _ hs; omega) kv.out)
  replace gB := Lib.hid (gB.out.trans (hf.below (fun g hg => by have h2 := ira.out g hg; have h3 := sB; omega)))
  clear hf
  clear ira era
  go_wp2_with fail
  refine (lspoil_any (SB Arc nrc orc) Arc nrc crc _ (by omega) gkC.out.1 x17 (hrc.out.wr erc.out)).mono ?_
  rintro en x18 ⟨rfl, hf⟩
  clear hrc
  have sx18 : x17.heap.size ≤ x18.heap.size := Nat.le_of_eq hf.2.1.symm
  replace hW := Lib.hid (hW.out.fr hf (fun g hg hs => by have h1 := iW.out g hg; have h2 := irc.out g hs; omega))
  replace hrp := Lib.hid (hrp.out.fr hf (fun g hg hs => by have h1 := irp.out g hg; have h2 := irc.out g hs; omega))
  replace hrs := Lib.hid (hrs.out.fr hf (fun g hg hs => by have h1 := irs.out g hg; have h2 := irc.out g hs; omega))
  replace um := Lib.hid (um.out.fr hf (fun g hg hs => by have h1 := jm.out g hg; have h2 := irc.out g hs; omega))
  replace ux := Lib.hid (ux.out.fr hf (fun g hg hs => by have h1 := jx.out g hg; have h2 := irc.out g hs; omega))
  replace uy := Lib.hid (uy.out.fr hf (fun g hg hs => by have h1 := jy.out g hg; have h2 := irc.out g hs; omega))
  replace uv := Lib.hid (uv.out.fr hf (fun g hg hs => by have h1 := jv.out g hg; have h2 := irc.out g hs; omega))
  replace km := Lib.hid (hf.blk (fun hs => by have h1 := nm.out; have h2 := irc.out _ hs; omega) km.out)
  replace kx := Lib.hid (hf.blk (fun hs => by have h1 := nx.out; have h2 := irc.out _ hs; omega) kx.out)
  replace ky := Lib.hid (hf.blk (fun hs => by have h1 := ny.out; have h2 := irc.out _ hs; omega) ky.out)
  replace kv := Lib.hid (hf.blk (fun hs => by have h1 := nv.out; have h2 := irc.out _ hs; omega) kv.out)
  replace gB := Lib.hid (gB.out.trans (hf.below (fun g hg => by have h2 := irc.out g hg; have h3 := sB; omega)))
  clear hf
  clear irc erc
  go_wp2_with fail
  refine (lspoil_any (SB Arp nrp orp) Arp nrp crp _ (by omega) gkP.out.1 x18 (hrp.out.wr erp.out)).mono ?_
  rintro en x19 ⟨rfl, hf⟩
  clear hrp
  have sx19 : x18.heap.size ≤ x19.heap.size := Nat.le_of_eq hf.2.1.symm
  replace hW := Lib.hid (hW.out.fr hf (fun g hg hs => by have h1 := iW.out g hg; have h2 := irp.out g hs; omega))
  replace hrs := Lib.hid (hrs.out.fr hf (fun g hg hs => by have h1 := irs.out g hg; have h2 := irp.out g hs; omega))
  replace um := Lib.hid (um.out.fr hf (fun g hg hs => by have h1 := jm.out g hg; have h2 := irp.out g hs; omega))
  replace ux := Lib.hid (ux.out.fr hf (fun g hg hs => apx.out g hs hg))
  replace uy := Lib.hid (uy.out.fr hf (fun g hg hs => by have h1 := jy.out g hg; have h2 := irp.out g hs; omega))
  replace uv := Lib.hid (uv.out.fr hf (fun g hg hs => by have h1 := jv.out g hg; have h2 := irp.out g hs; omega))
  replace km := Lib.hid (hf.blk (fun hs => by have h1 := nm.out; have h2 := irp.out _ hs; omega) km.out)
  replace kx := Lib.hid (hf.blk (fun hs => by have h1 := nx.out; have h2 := irp.out _ hs; omega) kx.out)
  replace ky := Lib.hid (hf.blk (fun hs => by have h1 := ny.out; have h2 := irp.out _ hs; omega) ky.out)
  replace kv := Lib.hid (hf.blk (fun hs => by have h1 := nv.out; have h2 := irp.out _ hs; omega) kv.out)
  replace gB := Lib.hid (gB.out.trans (hf.below (fun g hg => by have h2 := irp.out g hg; have h3 := sB; omega)))
  clear hf
  clear irp erp
  have a0 : x19.cell? ⟨tx, 0, none⟩ = some (.int .i64 ox.x.nu) := by rw [kx.out.cell]; rfl
  have a1 : x19.cell? ⟨tx, 1, none⟩ = some (.int .i64 ox.x.ep) := by rw [kx.out.cell]; rfl
  have a2 : x19.cell? ⟨tx, 2, none⟩ = some (.int .i64 ox.x.cp) := by rw [kx.out.cell]; rfl
  have a3 : x19.cell? ⟨tx, 3, none⟩ = some (.bool ox.x.give.s.neg) := by rw [kx.out.cell]; rfl
  have a4 : x19.cell? ⟨tx, 4, none⟩ = some (.slice ox.X0 ox.x.give.s.ls.length ox.c0) := by rw [kx.out.cell]; rfl
  have a5 : x19.cell? ⟨tx, 5, none⟩ = some (.int .i64 ox.x.give.s.ex) := by rw [kx.out.cell]; rfl
  have a6 : x19.cell? ⟨tx, 6, none⟩ = some (.bool ox.x.give.w.neg) := by rw [kx.out.cell]; rfl
  have a7 : x19.cell? ⟨tx, 7, none⟩ = some (.slice ox.X1 ox.x.give.w.ls.length ox.c1) := by rw [kx.out.cell]; rfl
  have a8 : x19.cell? ⟨tx, 8, none⟩ = some (.int .i64 ox.x.give.w.ex) := by rw [kx.out.cell]; rfl
  have a9 : x19.cell? ⟨tx, 9, none⟩ = some (.bool ox.x.give.c.neg) := by rw [kx.out.cell]; rfl
  have a10 : x19.cell? ⟨tx, 10, none⟩ = some (.slice ox.X2 ox.x.give.c.ls.length ox.c2) := by rw [kx.out.cell]; rfl
  have a11 : x19.cell? ⟨tx, 11, none⟩ = some (.int .i64 ox.x.give.c.ex) := by rw [kx.out.cell]; rfl
  have a12 : x19.cell? ⟨tx, 12, none⟩ = some (.bool ox.x.give.a.neg) := by rw [kx.out.cell]; rfl
  have a13 : x19.cell? ⟨tx, 13, none⟩ = some (.slice ox.X3 ox.x.give.a.ls.length ox.c3) := by rw [kx.out.cell]; rfl
  have a14 : x19.cell? ⟨tx, 14, none⟩ = some (.int .i64 ox.x.give.a.ex) := by rw [kx.out.cell]; rfl
  have b0 : x19.cell? ⟨ty, 0, none⟩ = some (.int .i64 oy.x.nu) := by rw [ky.out.cell]; rfl
  have b1 : x19.cell? ⟨ty, 1, none⟩ = some (.int .i64 oy.x.ep) := by rw [ky.out.cell]; rfl
  have b2 : x19.cell? ⟨ty, 2, none⟩ = some (.int .i64 oy.x.cp) := by rw [ky.out.cell]; rfl
  have b3 : x19.cell? ⟨ty, 3, none⟩ = some (.bool oy.x.give.s.neg) := by rw [ky.out.cell]; rfl
  have b4 : x19.cell? ⟨ty, 4, none⟩ = some (.slice oy.X0 oy.x.give.s.ls.length oy.c0) := by rw [ky.out.cell]; rfl
  have b5 : x19.cell? ⟨ty, 5, none⟩ = some (.int .i64 oy.x.give.s.ex) := by rw [ky.out.cell]; rfl
  have b6 : x19.cell? ⟨ty, 6, none⟩ = some (.bool oy.x.give.w.neg) := by rw [ky.out.cell]; rfl
  have b7 : x19.cell? ⟨ty, 7, none⟩ = some (.slice oy.X1 oy.x.give.w.ls.length oy.c1) := by rw [ky.out.cell]; rfl
  have b8 : x19.cell? ⟨ty, 8, none⟩ = some (.int .i64 oy.x.give.w.ex) := by rw [ky.out.cell]; rfl
  have b9 : x19.cell? ⟨ty, 9, none⟩ = some (.bool oy.x.give.c.neg) := by rw [ky.out.cell]; rfl
  have b10 : x19.cell? ⟨ty, 10, none⟩ = some (.slice oy.X2 oy.x.give.c.ls.length oy.c2) := by rw [ky.out.cell]; rfl
  have b11 : x19.cell? ⟨ty, 11, none⟩ = some (.int .i64 oy.x.give.c.ex) := by rw [ky.out.cell]; rfl
  have b12 : x19.cell? ⟨ty, 12, none⟩ = some (.bool oy.x.give.a.neg) := by rw [ky.out.cell]; rfl
  have b13 : x19.cell? ⟨ty, 13, none⟩ = some (.slice oy.X3 oy.x.give.a.ls.length oy.c3) := by rw [ky.out.cell]; rfl
  have b14 : x19.cell? ⟨ty, 14, none⟩ = some (.int .i64 oy.x.give.a.ex) := by rw [ky.out.cell]; rfl
  go_wp2_with fail
  clear a0 a1 a2 a3 a4 a5 a6 a7 a8 a9 a10 a11 a12 a13 a14 b0 b1 b2 b3 b4 b5 b6 b7 b8 b9 b10 b11 b12 b13 b14
  refine (rone_any ox.x.nu ox.x.ep ox.x.cp oy.x.nu oy.x.ep oy.x.cp _ _ _ _ _ _ _ _ _ _ _ _ _ _ _ _ _ _ _ _ _ _ _ _ _ _ _ _ _ _ _ _ _ _ _ _ _ _ _ _  ox.x.give oy.x.give (by rw [fx.out]; exact gxP.out) (by rw [fy.out]; exact gxP.out) true (decide_eq_true (by rw [fx.out, fy.out])) x19 ux.out.rdM uy.out.rdM).mono ?_
  rintro en x20 ⟨rfl, hb⟩
  have sx20 : x19.heap.size ≤ x20.heap.size := hb.size
  replace hW := Lib.hid (hW.out.below hb)
  replace hrs := Lib.hid (hrs.out.below hb)
  replace um := Lib.hid (um.out.map (fun h => h.below hb))
  replace ux := Lib.hid (ux.out.map (fun h => h.below hb))
  replace uy := Lib.hid (uy.out.map (fun h => h.below hb))
  replace uv := Lib.hid (uv.out.map (fun h => h.below hb))
  replace km := Lib.hid (km.out.below hb km.out.lt)
  replace kx := Lib.hid (kx.out.below hb kx.out.lt)
  replace ky := Lib.hid (ky.out.below hb ky.out.lt)
  replace kv := Lib.hid (kv.out.below hb kv.out.lt)
  replace gB := Lib.hid (gB.out.trans (hb.mono gB.out.size))
  clear hb
  have a0 : x20.cell? ⟨tx, 0, none⟩ = some (.int .i64 ox.x.nu) := by rw [kx.out.cell]; rfl
  have a1 : x20.cell? ⟨tx, 1, none⟩ = some (.int .i64 ox.x.ep) := by rw [kx.out.cell]; rfl
  have a2 : x20.cell? ⟨tx, 2, none⟩ = some (.int .i64 ox.x.cp) := by rw [kx.out.cell]; rfl
  have a3 : x20.cell? ⟨tx, 3, none⟩ = some (.bool ox.x.give.s.neg) := by rw [kx.out.cell]; rfl
  have a4 : x20.cell? ⟨tx, 4, none⟩ = some (.slice ox.X0 ox.x.give.s.ls.length ox.c0) := by rw [kx.out.cell]; rfl
  have a5 : x20.cell? ⟨tx, 5, none⟩ = some (.int .i64 ox.x.give.s.ex) := by rw [kx.out.cell]; rfl
  have a6 : x20.cell? ⟨tx, 6, none⟩ = some (.bool ox.x.give.w.neg) := by rw [kx.out.cell]; rfl
  have a7 : x20.cell? ⟨tx, 7, none⟩ = some (.slice ox.X1 ox.x.give.w.ls.length ox.c1) := by rw [kx.out.cell]; rfl
  have a8 : x20.cell? ⟨tx, 8, none⟩ = some (.int .i64 ox.x.give.w.ex) := by rw [kx.out.cell]; rfl
  have a9 : x20.cell? ⟨tx, 9, none⟩ = some (.bool ox.x.give.c.neg) := by rw [kx.out.cell]; rfl
  have a10 : x20.cell? ⟨tx, 10, none⟩ = some (.slice ox.X2 ox.x.give.c.ls.length ox.c2) := by rw [kx.out.cell]; rfl
  have a11 : x20.cell? ⟨tx, 11, none⟩ = some (.int .i64 ox.x.give.c.ex) := by rw [kx.out.cell]; rfl
  have a12 : x20.cell? ⟨tx, 12, none⟩ = some (.bool ox.x.give.a.neg) := by rw [kx.out.cell]; rfl
  have a13 : x20.cell? ⟨tx, 13, none⟩ = some (.slice ox.X3 ox.x.give.a.ls.length ox.c3) := by rw [kx.out.cell]; rfl
  have a14 : x20.cell? ⟨tx, 14, none⟩ = some (.int .i64 ox.x.give.a.ex) := by rw [kx.out.cell]; rfl
  go_wp2_with fail
  clear a0 a1 a2 a3 a4 a5 a6 a7 a8 a9 a10 a11 a12 a13 a14
  obtain ⟨y21, hy21⟩ : ∃ W, W = x20.alloc (.cells #[.int .i64 ox.x.nu, .int .i64 ox.x.ep, .int .i64 ox.x.cp, .bool ox.x.give.s.neg, .slice ox.X0 ox.x.give.s.ls.length ox.c0, .int .i64 ox.x.give.s.ex, .bool ox.x.give.w.neg, .slice ox.X1 ox.x.give.w.ls.length ox.c1, .int .i64 ox.x.give.w.ex, .bool ox.x.give.c.neg, .slice ox.X2 ox.x.give.c.ls.length ox.c2, .int .i64 ox.x.give.c.ex, .bool ox.x.give.a.neg, .slice ox.X3 ox.x.give.a.ls.length ox.c3, .int .i64 ox.x.give.a.ex] 40) := ⟨_, rfl⟩
  have hb : Below x20.heap.size x20 y21 := by rw [hy21]; exact (Below.refl _ _).alloc (Nat.le_refl _) _
  have hr : RowE y21 0 (some ⟨x20.heap.size, 0, none⟩) 1 1 [ox] := by rw [hy21]; exact row_one (ux.out.map (fun h => h.base_le (Nat.zero_le _))) (Nat.zero_le _)
  have iNx : Hid (∀ g, SB (some ⟨x20.heap.size, 0, none⟩) 1 [ox] g → g = x20.heap.size ∨ (x4.heap.size ≤ g ∧ g < x5.heap.size)) := Lib.hid (fun g hg => (SB_one hg).imp id (jx.out g))
  have zz : y21.heap.size = x20.heap.size + 1 := by rw [hy21, World.size_alloc]
  rw [← hy21]
  clear hy21
  have hNx := Lib.hid hr
  clear hr
  have sy21 : x20.heap.size ≤ y21.heap.size := hb.size
  replace hW := Lib.hid (hW.out.below hb)
  replace hrs := Lib.hid (hrs.out.below hb)
  replace um := Lib.hid (um.out.map (fun h => h.below hb))
  replace uy := Lib.hid (uy.out.map (fun h => h.below hb))
  replace uv := Lib.hid (uv.out.map (fun h => h.below hb))
  replace km := Lib.hid (km.out.below hb km.out.lt)
  replace kx := Lib.hid (kx.out.below hb kx.out.lt)
  replace ky := Lib.hid (ky.out.below hb ky.out.lt)
  replace kv := Lib.hid (kv.out.below hb kv.out.lt)
  replace gB := Lib.hid (gB.out.trans (hb.mono gB.out.size))
  clear hb
  refine (lspoil_any (SB (some ⟨x20.heap.size, 0, none⟩) 1 [ox]) (some ⟨x20.heap.size, 0, none⟩) 1 1 _ (by omega) (fun z hz => by rw [List.mem_singleton.1 hz, fx.out]; exact gxP.out) y21 (hNx.out.wr (l := [ox.x]) rfl)).mono ?_
  rintro en x21 ⟨rfl, hf⟩
  clear hNx
  have sx21 : y21.heap.size ≤ x21.heap.size := Nat.le_of_eq hf.2.1.symm
  replace hW := Lib.hid (hW.out.fr hf (fun g hg hs => by have h1 := iW.out g hg; have h2 := iNx.out g hs; omega))
  replace hrs := Lib.hid (hrs.out.fr hf (fun g hg hs => by have h1 := irs.out g hg; have h2 := iNx.out g hs; omega))
  replace um := Lib.hid (um.out.fr hf (fun g hg hs => by have h1 := jm.out g hg; have h2 := iNx.out g hs; omega))
  replace uy := Lib.hid (uy.out.fr hf (fun g hg hs => by have h1 := jy.out g hg; have h2 := iNx.out g hs; omega))
  replace uv := Lib.hid (uv.out.fr hf (fun g hg hs => by have h1 := jv.out g hg; have h2 := iNx.out g hs; omega))
  replace km := Lib.hid (hf.blk (fun hs => by have h1 := nm.out; have h2 := iNx.out _ hs; omega) km.out)
  replace kx := Lib.hid (hf.blk (fun hs => by have h1 := nx.out; have h2 := iNx.out _ hs; omega) kx.out)
  replace ky := Lib.hid (hf.blk (fun hs => by have h1 := ny.out; have h2 := iNx.out _ hs; omega) ky.out)
  replace kv := Lib.hid (hf.blk (fun hs => by have h1 := nv.out; have h2 := iNx.out _ hs; omega) kv.out)
  replace gB := Lib.hid (gB.out.trans (hf.below (fun g hg => by have h2 := iNx.out g hg; have h3 := sB; omega)))
  clear hf
  clear iNx zz ux jx apx
  go_wp2_with fail
  refine (lspoil_any (SB Ars nrs ors) Ars nrs crs _ (by omega) gkS.out.1 x21 (hrs.out.wr ers.out)).mono ?_
  rintro en x22 ⟨rfl, hf⟩
  clear hrs
  have sx22 : x21.heap.size ≤ x22.heap.size := Nat.le_of_eq hf.2.1.symm
  replace hW := Lib.hid (hW.out.fr hf (fun g hg hs => by have h1 := iW.out g hg; have h2 := irs.out g hs; omega))
  replace um := Lib.hid (um.out.fr hf (fun g hg hs => by have h1 := jm.out g hg; have h2 := irs.out g hs; omega))
  replace uy := Lib.hid (uy.out.fr hf (fun g hg hs => by have h1 := jy.out g hg; have h2 := irs.out g hs; omega))
  replace uv := Lib.hid (uv.out.fr hf (fun g hg hs => apv.out g hs hg))
  replace km := Lib.hid (hf.blk (fun hs => by have h1 := nm.out; have h2 := irs.out _ hs; omega) km.out)
  replace kx := Lib.hid (hf.blk (fun hs => by have h1 := nx.out; have h2 := irs.out _ hs; omega) kx.out)
  replace ky := Lib.hid (hf.blk (fun hs => by have h1 := ny.out; have h2 := irs.out _ hs; omega) ky.out)
  replace kv := Lib.hid (hf.blk (fun hs => by have h1 := nv.out; have h2 := irs.out _ hs; omega) kv.out)
  replace gB := Lib.hid (gB.out.trans (hf.below (fun g hg => by have h2 := irs.out g hg; have h3 := sB; omega)))
  clear hf
  clear irs ers
  have a0 : x22.cell? ⟨tv, 0, none⟩ = some (.int .i64 ov.x.nu) := by rw [kv.out.cell]; rfl
  have a1 : x22.cell? ⟨tv, 1, none⟩ = some (.int .i64 ov.x.ep) := by rw [kv.out.cell]; rfl
  have a2 : x22.cell? ⟨tv, 2, none⟩ = some (.int .i64 ov.x.cp) := by rw [kv.out.cell]; rfl
  have a3 : x22.cell? ⟨tv, 3, none⟩ = some (.bool ov.x.give.s.neg) := by rw [kv.out.cell]; rfl
  have a4 : x22.cell? ⟨tv, 4, none⟩ = some (.slice ov.X0 ov.x.give.s.ls.length ov.c0) := by rw [kv.out.cell]; rfl
  have a5 : x22.cell? ⟨tv, 5, none⟩ = some (.int .i64 ov.x.give.s.ex) := by rw [kv.out.cell]; rfl
  have a6 : x22.cell? ⟨tv, 6, none⟩ = some (.bool ov.x.give.w.neg) := by rw [kv.out.cell]; rfl
  have a7 : x22.cell? ⟨tv, 7, none⟩ = some (.slice ov.X1 ov.x.give.w.ls.length ov.c1) := by rw [kv.out.cell]; rfl
  have a8 : x22.cell? ⟨tv, 8, none⟩ = some (.int .i64 ov.x.give.w.ex) := by rw [kv.out.cell]; rfl
  have a9 : x22.cell? ⟨tv, 9, none⟩ = some (.bool ov.x.give.c.neg) := by rw [kv.out.cell]; rfl
  have a10 : x22.cell? ⟨tv, 10, none⟩ = some (.slice ov.X2 ov.x.give.c.ls.length ov.c2) := by rw [kv.out.cell]; rfl
  have a11 : x22.cell? ⟨tv, 11, none⟩ = some (.int .i64 ov.x.give.c.ex) := by rw [kv.out.cell]; rfl
  have a12 : x22.cell? ⟨tv, 12, none⟩ = some (.bool ov.x.give.a.neg) := by rw [kv.out.cell]; rfl
  have a13 : x22.cell? ⟨tv, 13, none⟩ = some (.slice ov.X3 ov.x.give.a.ls.length ov.c3) := by rw [kv.out.cell]; rfl
  have a14 : x22.cell? ⟨tv, 14, none⟩ = some (.int .i64 ov.x.give.a.ex) := by rw [kv.out.cell]; rfl
  go_wp2_with fail
  clear a0 a1 a2 a3 a4 a5 a6 a7 a8 a9 a10 a11 a12 a13 a14
  obtain ⟨y23, hy23⟩ : ∃ W, W = x22.alloc (.cells #[.int .i64 ov.x.nu, .int .i64 ov.x.ep, .int .i64 ov.x.cp, .bool ov.x.give.s.neg, .slice ov.X0 ov.x.give.s.ls.length ov.c0, .int .i64 ov.x.give.s.ex, .bool ov.x.give.w.neg, .slice ov.X1 ov.x.give.w.ls.length ov.c1, .int .i64 ov.x.give.w.ex, .bool ov.x.give.c.neg, .slice ov.X2 ov.x.give.c.ls.length ov.c2, .int .i64 ov.x.give.c.ex, .bool ov.x.give.a.neg, .slice ov.X3 ov.x.give.a.ls.length ov.c3, .int .i64 ov.x.give.a.ex] 40) := ⟨_, rfl⟩
  have hb : Below x22.heap.size x22 y23 := by rw [hy23]; exact (Below.refl _ _).alloc (Nat.le_refl _) _
  have hr : RowE y23 0 (some ⟨x22.heap.size, 0, none⟩) 1 1 [ov] := by rw [hy23]; exact row_one (uv.out.map (fun h => h.base_le (Nat.zero_le _))) (Nat.zero_le _)
  have iNv : Hid (∀ g, SB (some ⟨x22.heap.size, 0, none⟩) 1 [ov] g → g = x22.heap.size ∨ (y6.heap.size ≤ g ∧ g < x7.heap.size)) := Lib.hid (fun g hg => (SB_one hg).imp id (jv.out g))
  have zz : y23.heap.size = x22.heap.size + 1 := by rw [hy23, World.size_alloc]
  rw [← hy23]
  clear hy23
  have hNv := Lib.hid hr
  clear hr
  have sy23 : x22.heap.size ≤ y23.heap.size := hb.size
  replace hW := Lib.hid (hW.out.below hb)
  replace um := Lib.hid (um.out.map (fun h => h.below hb))
  replace uy := Lib.hid (uy.out.map (fun h => h.below hb))
  replace km := Lib.hid (km.out.below hb km.out.lt)
  replace kx := Lib.hid (kx.out.below hb kx.out.lt)
  replace ky := Lib.hid (ky.out.below hb ky.out.lt)
  replace kv := Lib.hid (kv.out.below hb kv.out.lt)
  replace gB := Lib.hid (gB.out.trans (hb.mono gB.out.size))
  clear hb
  refine (lspoil_any (SB (some ⟨x22.heap.size, 0, none⟩) 1 [ov]) (some ⟨x22.heap.size, 0, none⟩) 1 1 _ (by omega) (fun z hz => by rw [List.mem_singleton.1 hz, fv.out]; exact gxS.out) y23 (hNv.out.wr (l := [ov.x]) rfl)).mono ?_
  rintro en x23 ⟨rfl, hf⟩
  clear hNv
  have sx23 : y23.heap.size ≤ x23.heap.size := Nat.le_of_eq hf.2.1.symm
  replace hW := Lib.hid (hW.out.fr hf (fun g hg hs => by have h1 := iW.out g hg; have h2 := iNv.out g hs; omega))
  replace um := Lib.hid (um.out.fr hf (fun g hg hs => by have h1 := jm.out g hg; have h2 := iNv.out g hs; omega))
  replace uy := Lib.hid (uy.out.fr hf (fun g hg hs => by have h1 := jy.out g hg; have h2 := iNv.out g hs; omega))
  replace km := Lib.hid (hf.blk (fun hs => by have h1 := nm.out; have h2 := iNv.out _ hs; omega) km.out)
  replace kx := Lib.hid (hf.blk (fun hs => by have h1 := nx.out; have h2 := iNv.out _ hs; omega) kx.out)
  replace ky := Lib.hid (hf.blk (fun hs => by have h1 := ny.out; have h2 := iNv.out _ hs; omega) ky.out)
  replace kv := Lib.hid (hf.blk (fun hs => by have h1 := nv.out; have h2 := iNv.out _ hs; omega) kv.out)
  replace gB := Lib.hid (gB.out.trans (hf.below (fun g hg => by have h2 := iNv.out g hg; have h3 := sB; omega)))
  clear hf
  clear iNv zz uv jv apv
  go_wp2_with fail
  refine (rsame_any Ao A n n co c l l (by omega) (by omega) gs.out gs.out true (decide_eq_true rfl) x23 (hW.out.ens eW.out) (gL.out _ gB.out)).mono ?_
  rintro en x24 ⟨rfl, hb⟩
  have sx24 : x23.heap.size ≤ x24.heap.size := hb.size
  replace hW := Lib.hid (hW.out.below hb)
  replace um := Lib.hid (um.out.map (fun h => h.below hb))
  replace uy := Lib.hid (uy.out.map (fun h => h.below hb))
  replace km := Lib.hid (km.out.below hb km.out.lt)
  replace kx := Lib.hid (kx.out.below hb kx.out.lt)
  replace ky := Lib.hid (ky.out.below hb ky.out.lt)
  replace kv := Lib.hid (kv.out.below hb kv.out.lt)
  replace gB := Lib.hid (gB.out.trans (hb.mono gB.out.size))
  clear hb
  have b0 : x24.cell? ⟨g, 0, none⟩ = some (.bool om.x.give.s.neg) := by rw [km.out.cell]; rfl
  have b1 : x24.cell? ⟨g, 1, none⟩ = some (.slice om.X0 om.x.give.s.ls.length om.c0) := by rw [km.out.cell]; rfl
  have b2 : x24.cell? ⟨g, 2, none⟩ = some (.int .i64 om.x.give.s.ex) := by rw [km.out.cell]; rfl
  have b3 : x24.cell? ⟨g, 3, none⟩ = some (.bool om.x.give.w.neg) := by rw [km.out.cell]; rfl
  have b4 : x24.cell? ⟨g, 4, none⟩ = some (.slice om.X1 om.x.give.w.ls.length om.c1) := by rw [km.out.cell]; rfl
  have b5 : x24.cell? ⟨g, 5, none⟩ = some (.int .i64 om.x.give.w.ex) := by rw [km.out.cell]; rfl
  have b6 : x24.cell? ⟨g, 6, none⟩ = some (.bool om.x.give.c.neg) := by rw [km.out.cell]; rfl
  have b7 : x24.cell? ⟨g, 7, none⟩ = some (.slice om.X2 om.x.give.c.ls.length om.c2) := by rw [km.out.cell]; rfl
  have b8 : x24.cell? ⟨g, 8, none⟩ = some (.int .i64 om.x.give.c.ex) := by rw [km.out.cell]; rfl
  have b9 : x24.cell? ⟨g, 9, none⟩ = some (.bool om.x.give.a.neg) := by rw [km.out.cell]; rfl
  have b10 : x24.cell? ⟨g, 10, none⟩ = some (.slice om.X3 om.x.give.a.ls.length om.c3) := by rw [km.out.cell]; rfl
  have b11 : x24.cell? ⟨g, 11, none⟩ = some (.int .i64 om.x.give.a.ex) := by rw [km.out.cell]; rfl
  obtain ⟨a0, a1, a2, a3, a4, a5, a6, a7, a8, a9, a10, a11⟩ := gCel.out _ gB.out
  go_wp2_with fail
  refine (rmsame_any _ _ _ _ _ _ _ _ _ _ _ _ _ _ _ _ _ _ _ _ _ _ _ _ _ _ _ _ _ _ _ _ _ _ _ _ _ _ _ _  om.x.give mx (by rw [em.out]; exact gsx.out) gsx.out x24 um.out.rdM (gXm.out _ gB.out) true (decide_eq_true em.out)).mono ?_
  rintro en x25 ⟨rfl, hb⟩
  have sx25 : x24.heap.size ≤ x25.heap.size := hb.size
  replace hW := Lib.hid (hW.out.below hb)
  replace um := Lib.hid (um.out.map (fun h => h.below hb))
  replace uy := Lib.hid (uy.out.map (fun h => h.below hb))
  replace km := Lib.hid (km.out.below hb km.out.lt)
  replace kx := Lib.hid (kx.out.below hb kx.out.lt)
  replace ky := Lib.hid (ky.out.below hb ky.out.lt)
  replace kv := Lib.hid (kv.out.below hb kv.out.lt)
  replace gB := Lib.hid (gB.out.trans (hb.mono gB.out.size))
  clear hb
  go_wp2
  go_ret
  exact ⟨rfl, hB2.trans (gB.out.mono hB2.size)⟩
set_option maxRecDepth 100000 in
set_option maxHeartbeats 64000000 in
theorem tells_two (A : Option Addr) (n : Nat) (c : Nat) (l : List En) (N : Int) (e : Int) (bX0 : Option Addr) (bc0 : Nat) (bX1 : Option Addr) (bc1 : Nat) (bX2 : Option Addr) (bc2 : Nat) (bX3 : Option Addr) (bc3 : Nat) (mx : Ms) (w : World) (w2 : World) (wc : World) (x1 : World) (x2 : World) (x3 : World) (x4 : World) (x5 : World) (y5 : World) (x6 : World) (y6 : World) (x7 : World) (y7 : World) (x8 : World) (y8 : World) (Ao : Option Addr) (co : Nat) (oW : List EO) (g : Nat) (om : EO) (Ara : Option Addr) (nra : Nat) (cra : Nat) (ora : List EO) (Arb : Option Addr) (nrb : Nat) (crb : Nat) (orb : List EO) (Arc : Option Addr) (nrc : Nat) (crc : Nat) (orc : List EO) (Ard : Option Addr) (nrd : Nat) (crd : Nat) (ord : List EO) (Arp : Option Addr) (nrp : Nat) (crp : Nat) (orp : List EO) (Arq : Option Addr) (nrq : Nat) (crq : Nat) (orq : List EO) (Ars : Option Addr) (nrs : Nat) (crs : Nat) (ors : List EO) (Art : Option Addr) (nrt : Nat) (crt : Nat) (ort : List EO) (lra : List En) (Era : Int) (lrc : List En) (Erc : Int) (lrp : List En) (Erp : Int) (lrs : List En) (Ers : Int) (zrp : En) (zrs : En) (ox : EO) (tx : Nat) (oy : EO) (ty : Nat) (ov : EO) (tv : Nat) (oz : EO) (tz : Nat) (hnc : n ≤ c) (hnx : n ≤ maxLen) (hn10 : n ≤ 10000) (gln : Hid (l.length = n)) (gs : Hid (∀ x ∈ l, smM x.give)) (gsx : Hid (smM mx)) (gl20 : Hid (l.length ≤ 20)) (gL : Hid (∀ v', Below w2.heap.size w2 v' → Ens v' v'.heap.size A n l)) (gXm : Hid (∀ v', Below w2.heap.size w2 v' → RdM v' v'.heap.size mx.s.neg bX0 mx.s.ls.length bc0 mx.s.ex mx.w.neg bX1 mx.w.ls.length bc1 mx.w.ex mx.c.neg bX2 mx.c.ls.length bc2 mx.c.ex mx.a.neg bX3 mx.a.ls.length bc3 mx.a.ex mx)) (gCel : Hid (∀ w', Below w2.heap.size w2 w' → w'.cell? ⟨w.heap.size, 0, none⟩ = some (.bool mx.s.neg) ∧ w'.cell? ⟨w.heap.size, 1, none⟩ = some (.slice bX0 mx.s.ls.length bc0) ∧ w'.cell? ⟨w.heap.size, 2, none⟩ = some (.int .i64 mx.s.ex) ∧ w'.cell? ⟨w.heap.size, 3, none⟩ = some (.bool mx.w.neg) ∧ w'.cell? ⟨w.heap.size, 4, none⟩ = some (.slice bX1 mx.w.ls.length bc1) ∧ w'.cell? ⟨w.heap.size, 5, none⟩ = some (.int .i64 mx.w.ex) ∧ w'.cell? ⟨w.heap.size, 6, none⟩ = some (.bool mx.c.neg) ∧ w'.cell? ⟨w.heap.size, 7, none⟩ = some (.slice bX2 mx.c.ls.length bc2) ∧ w'.cell? ⟨w.heap.size, 8, none⟩ = some (.int .i64 mx.c.ex) ∧ w'.cell? ⟨w.heap.size, 9, none⟩ = some (.bool mx.a.neg) ∧ w'.cell? ⟨w.heap.size, 10, none⟩ = some (.slice bX3 mx.a.ls.length bc3) ∧ w'.cell? ⟨w.heap.size, 11, none⟩ = some (.int .i64 mx.a.ex))) (hB2 : Below w.heap.size w w2) (gB : Hid (Below w2.heap.size w2 y8)) (sB : w2.heap.size ≤ wc.heap.size) (eW : Hid (oW.map (·.x) = l)) (em : Hid (om.x.give = mx)) (gkW : Hid ((∀ x ∈ l, smM x.give) ∧ l.length ≤ 1000)) (sx1 : wc.heap.size ≤ x1.heap.size) (sx2 : x1.heap.size ≤ x2.heap.size) (sx3 : x2.heap.size ≤ x3.heap.size) (sx4 : x3.heap.size ≤ x4.heap.size) (sx5 : x4.heap.size ≤ x5.heap.size) (sy5 : x5.heap.size ≤ y5.heap.size) (sx6 : y5.heap.size ≤ x6.heap.size) (sy6 : x6.heap.size ≤ y6.heap.size) (sx7 : y6.heap.size ≤ x7.heap.size) (sy7 : x7.heap.size ≤ y7.heap.size) (sx8 : y7.heap.size ≤ x8.heap.size) (sy8 : x8.heap.size ≤ y8.heap.size) (gkA : Hid ((∀ x ∈ lra, smM x.give) ∧ lra.length ≤ 1000)) (gkC : Hid ((∀ x ∈ lrc, smM x.give) ∧ lrc.length ≤ 1000)) (gkP : Hid ((∀ x ∈ lrp, smM x.give) ∧ lrp.length ≤ 1000)) (gkS : Hid ((∀ x ∈ lrs, smM x.give) ∧ lrs.length ≤ 1000)) (gxP : Hid (smM zrp.give)) (gxS : Hid (smM zrs.give)) (qEA : (Era == Era) = true) (qEC : (Erc == Erc) = true) (qEP : (Erp == Erp) = true) (qES : (Ers == Ers) = true) (hW : Hid (RowE y8 w2.heap.size Ao n co oW)) (iW : Hid (∀ g, SB Ao n oW g → w2.heap.size ≤ g ∧ g < wc.heap.size)) (hra : Hid (RowE y8 wc.heap.size Ara nra cra ora)) (ira : Hid (∀ g, SB Ara nra ora g → wc.heap.size ≤ g ∧ g < x1.heap.size)) (era : Hid (ora.map (·.x) = lra)) (qra : nra ≤ 1000) (hrb : Hid (RowE y8 x1.heap.size Arb nrb crb orb)) (irb : Hid (∀ g, SB Arb nrb orb g → x1.heap.size ≤ g ∧ g < x2.heap.size)) (erb : Hid (orb.map (·.x) = lra)) (qrb : nrb ≤ 1000) (hrc : Hid (RowE y8 x2.heap.size Arc nrc crc orc)) (irc : Hid (∀ g, SB Arc nrc orc g → x2.heap.size ≤ g ∧ g < x3.heap.size)) (erc : Hid (orc.map (·.x) = lrc)) (qrc : nrc ≤ 1000) (hrd : Hid (RowE y8 x3.heap.size Ard nrd crd ord)) (ird : Hid (∀ g, SB Ard nrd ord g → x3.heap.size ≤ g ∧ g < x4.heap.size)) (erd : Hid (ord.map (·.x) = lrc)) (qrd : nrd ≤ 1000) (hrp : Hid (RowE y8 x4.heap.size Arp nrp crp orp)) (irp : Hid (∀ g, SB Arp nrp orp g → x4.heap.size ≤ g ∧ g < x5.heap.size)) (erp : Hid (orp.map (·.x) = lrp)) (qrp : nrp ≤ 1000) (hrq : Hid (RowE y8 y5.heap.size Arq nrq crq orq)) (irq : Hid (∀ g, SB Arq nrq orq g → y5.heap.size ≤ g ∧ g < x6.heap.size)) (erq : Hid (orq.map (·.x) = lrp)) (qrq : nrq ≤ 1000) (hrs : Hid (RowE y8 y6.heap.size Ars nrs crs ors)) (irs : Hid (∀ g, SB Ars nrs ors g → y6.heap.size ≤ g ∧ g < x7.heap.size)) (ers : Hid (ors.map (·.x) = lrs)) (qrs : nrs ≤ 1000) (hrt : Hid (RowE y8 y7.heap.size Art nrt crt ort)) (irt : Hid (∀ g, SB Art nrt ort g → y7.heap.size ≤ g ∧ g < x8.heap.size)) (ert : Hid (ort.map (·.x) = lrs)) (qrt : nrt ≤ 1000) (um : Hid (ownE y8 w2.heap.size om)) (jm : Hid (∀ g, hasB om g → w2.heap.size ≤ g ∧ g < wc.heap.size)) (ux : Hid (ownE y8 x4.heap.size ox)) (jx : Hid (∀ g, hasB ox g → x4.heap.size ≤ g ∧ g < x5.heap.size)) (apx : Hid (∀ g, SB Arp nrp orp g → hasB ox g → False)) (fx : Hid (ox.x = zrp)) (uy : Hid (ownE y8 y5.heap.size oy)) (jy : Hid (∀ g, hasB oy g → y5.heap.size ≤ g ∧ g < x6.heap.size)) (apy : Hid (∀ g, SB Arq nrq orq g → hasB oy g → False)) (fy : Hid (oy.x = zrp)) (uv : Hid (ownE y8 y6.heap.size ov)) (jv : Hid (∀ g, hasB ov g → y6.heap.size ≤ g ∧ g < x7.heap.size)) (apv : Hid (∀ g, SB Ars nrs ors g → hasB ov g → False)) (fv : Hid (ov.x = zrs)) (uz : Hid (ownE y8 y7.heap.size oz)) (jz : Hid (∀ g, hasB oz g → y7.heap.size ≤ g ∧ g < x8.heap.size)) (apz : Hid (∀ g, SB Art nrt ort g → hasB oz g → False)) (fz : Hid (oz.x = zrs)) (km : Hid (Blk y8 g 27 #[.bool om.x.give.s.neg, .slice om.X0 om.x.give.s.ls.length om.c0, .int .i64 om.x.give.s.ex, .bool om.x.give.w.neg, .slice om.X1 om.x.give.w.ls.length om.c1, .int .i64 om.x.give.w.ex, .bool om.x.give.c.neg, .slice om.X2 om.x.give.c.ls.length om.c2, .int .i64 om.x.give.c.ex, .bool om.x.give.a.neg, .slice om.X3 om.x.give.a.ls.length om.c3, .int .i64 om.x.give.a.ex])) (nm : Hid (w2.heap.size ≤ g ∧ g < wc.heap.size)) (kx : Hid (Blk y8 tx 40 #[.int .i64 ox.x.nu, .int .i64 ox.x.ep, .int .i64 ox.x.cp, .bool ox.x.give.s.neg, .slice ox.X0 ox.x.give.s.ls.length ox.c0, .int .i64 ox.x.give.s.ex, .bool ox.x.give.w.neg, .slice ox.X1 ox.x.give.w.ls.length ox.c1, .int .i64 ox.x.give.w.ex, .bool ox.x.give.c.neg, .slice ox.X2 ox.x.give.c.ls.length ox.c2, .int .i64 ox.x.give.c.ex, .bool ox.x.give.a.neg, .slice ox.X3 ox.x.give.a.ls.length ox.c3, .int .i64 ox.x.give.a.ex])) (nx : Hid (tx = x5.heap.size ∧ tx < y5.heap.size)) (ky : Hid (Blk y8 ty 40 #[.int .i64 oy.x.nu, .int .i64 oy.x.ep, .int .i64 oy.x.cp, .bool oy.x.give.s.neg, .slice oy.X0 oy.x.give.s.ls.length oy.c0, .int .i64 oy.x.give.s.ex, .bool oy.x.give.w.neg, .slice oy.X1 oy.x.give.w.ls.length oy.c1, .int .i64 oy.x.give.w.ex, .bool oy.x.give.c.neg, .slice oy.X2 oy.x.give.c.ls.length oy.c2, .int .i64 oy.x.give.c.ex, .bool oy.x.give.a.neg, .slice oy.X3 oy.x.give.a.ls.length oy.c3, .int .i64 oy.x.give.a.ex])) (ny : Hid (ty = x6.heap.size ∧ ty < y6.heap.size)) (kv : Hid (Blk y8 tv 40 #[.int .i64 ov.x.nu, .int .i64 ov.x.ep, .int .i64 ov.x.cp, .bool ov.x.give.s.neg, .slice ov.X0 ov.x.give.s.ls.length ov.c0, .int .i64 ov.x.give.s.ex, .bool ov.x.give.w.neg, .slice ov.X1 ov.x.give.w.ls.length ov.c1, .int .i64 ov.x.give.w.ex, .bool ov.x.give.c.neg, .slice ov.X2 ov.x.give.c.ls.length ov.c2, .int .i64 ov.x.give.c.ex, .bool ov.x.give.a.neg, .slice ov.X3 ov.x.give.a.ls.length ov.c3, .int .i64 ov.x.give.a.ex])) (nv : Hid (tv = x7.heap.size ∧ tv < y7.heap.size)) (kz : Hid (Blk y8 tz 40 #[.int .i64 oz.x.nu, .int .i64 oz.x.ep, .int .i64 oz.x.cp, .bool oz.x.give.s.neg, .slice oz.X0 oz.x.give.s.ls.length oz.c0, .int .i64 oz.x.give.s.ex, .bool oz.x.give.w.neg, .slice oz.X1 oz.x.give.w.ls.length oz.c1, .int .i64 oz.x.give.w.ex, .bool oz.x.give.c.neg, .slice oz.X2 oz.x.give.c.ls.length oz.c2, .int .i64 oz.x.give.c.ex, .bool oz.x.give.a.neg, .slice oz.X3 oz.x.give.a.ls.length oz.c3, .int .i64 oz.x.give.a.ex])) (nz : Hid (tz = x8.heap.size ∧ tz < y8.heap.size)) (body3 : Code) (hb3 : Try.f3.body = some body3) (s3 s4 s5 s6 s31 s32 s33 s34 s35 s36 s37 s38 s39 s40 s41 s42 s43 s44 s45 s46 s47 s48 s49 s50 s51 s52 s53 s54 s55 s56 s57 s58 s59 s60 s61 s62 s63 s64 s65 s66 s67 s68 s69 s70 s71 s72 s73 s74 s75 s76 s77 s78 s79 s80 s81 s82 s83 s84 s85 s86 s87 s88 s89 s90 s91 s92 s93 s94 s95 s96 s97 s98 s99 s100 s101 s102 s103 s104 s105 s106 s107 s108 s109 s110 s111 s112 s113 s114 s115 s116 s117 s118 s119 s120 s121 s122 s123 s124 s125 s126 s127 s128 s129 s130 s131 s132 s133 s134 s135 s136 s137 s138 s139 s140 s141 s142 s143 s144 s145 s146 s147 s148 s149 s150 s151 s152 s153 s154 s155 s156 s157 s158 s159 s160 s161 s162 s163 s164 s165 s166 s167 s168 s169 s170 s171 s172 s173 s174 s175 s176 s177 s178 s179 s180 s181 s182 s183 s184 s185 : Value) (K : Act → World → Prop) (Q : Exit → Act → World → Prop) (hQ : Q = bodyPost Try.prog Try.f3 fun en w' => en = .returned (.bool true) ∧ Below w.heap.size w w') (hK : ∀ a w, Code.wp Try.prog (sndC (sndC (sndC (sndC (sndC (sndC (sndC (sndC (sndC (sndC (sndC (sndC (body3))))))))))))) Q a w → K a w) : Code.wp Try.prog (fstC (sndC (sndC (sndC (sndC (sndC (sndC (sndC (sndC (sndC (sndC (sndC (body3))))))))))))) (Exit.then K Q) { tmps := #[.slice A n c, .int .i64 N, .int .i64 e, s3, s4, s5, s6, .pointer (some ⟨w.heap.size, 0, none⟩), .bool false, .slice Ao n co, .pointer (some ⟨g, 0, none⟩), .slice Ara nra cra, .int .i64 Era, .slice Arb nrb crb, .int .i64 Era, .slice Arc nrc crc, .int .i64 Erc, .slice Ard nrd crd, .int .i64 Erc, .slice Arp nrp crp, .pointer (some ⟨tx, 0, none⟩), .int .i64 Erp, .slice Arq nrq crq, .pointer (some ⟨ty, 0, none⟩), .int .i64 Erp, .slice Ars nrs crs, .pointer (some ⟨tv, 0, none⟩), .int .i64 Ers, .slice Art nrt crt, .pointer (some ⟨tz, 0, none⟩), .int .i64 Ers, s31, s32, s33, s34, s35, s36, s37, s38, s39, s40, s41, s42, s43, s44, s45, s46, s47, s48, s49, s50, s51, s52, s53, s54, s55, s56, s57, s58, s59, s60, s61, s62, s63, s64, s65, s66, s67, s68, s69, s70, s71, s72, s73, s74, s75, s76, s77, s78, s79, s80, s81, s82, s83, s84, s85, s86, s87, s88, s89, s90, s91, s92, s93, s94, s95, s96, s97, s98, s99, s100, s101, s102, s103, s104, s105, s106, s107, s108, s109, s110, s111, s112, s113, s114, s115, s116, s117, s118, s119, s120, s121, s122, s123, s124, s125, s126, s127, s128, s129, s130, s131, s132, s133, s134, s135, s136, s137, s138, s139, s140, s141, s142, s143, s144, s145, s146, s147, s148, s149, s150, s151, s152, s153, s154, s155, s156, s157, s158, s159, s160, s161, s162, s163, s164, s165, s166, s167, s168, s169, s170, s171, s172, s173, s174, s175, s176, s177, s178, s179, s180, s181, s182, s183, s184, s185], defers := [] } y8 := by
  dsimp only [Try.f3] at hb3
  injection hb3 with hb3
  subst hb3
  dsimp only [fstC, sndC] at hK ⊢
  subst hQ
  go_wp2_with fail
  refine (rsame_any Ara Arb nra nrb cra crb _ _ (by omega) (by omega) gkA.out.1 gkA.out.1 true (decide_eq_true rfl) y8 (hra.out.ens era.out) (hrb.out.ens erb.out)).mono ?_
  rintro en x9 ⟨rfl, hb⟩
  have sx9 : y8.heap.size ≤ x9.heap.size := hb.size
  replace hW := Lib.hid (hW.out.below hb)
  replace hra := Lib.hid (hra.out.below hb)
  replace hrb := Lib.hid (hrb.out.below hb)
  replace hrc := Lib.hid (hrc.out.below hb)
  replace hrd := Lib.hid (hrd.out.below hb)
  replace hrp := Lib.hid (hrp.out.below hb)
  replace hrq := Lib.hid (hrq.out.below hb)
  replace hrs := Lib.hid (hrs.out.below hb)
  replace hrt := Lib.hid (hrt.out.below hb)
  replace um := Lib.hid (um.out.map (fun h => h.below hb))
  replace ux := Lib.hid (ux.out.map (fun h => h.below hb))
  replace uy := Lib.hid (uy.out.map (fun h => h.below hb))
  replace uv := Lib.hid (uv.out.map (fun h => h.below hb))
  replace uz := Lib.hid (uz.out.map (fun h => h.below hb))
  replace km := Lib.hid (km.out.below hb km.out.lt)
  replace kx := Lib.hid (kx.out.below hb kx.out.lt)
  replace ky := Lib.hid (ky.out.below hb ky.out.lt)
  replace kv := Lib.hid (kv.out.below hb kv.out.lt)
  replace kz := Lib.hid (kz.out.below hb kz.out.lt)
  replace gB := Lib.hid (gB.out.trans (hb.mono gB.out.size))
  clear hb
  go_wp2_with fail
  refine (rsame_any Arc Ard nrc nrd crc crd _ _ (by omega) (by omega) gkC.out.1 gkC.out.1 true (decide_eq_true rfl) x9 (hrc.out.ens erc.out) (hrd.out.ens erd.out)).mono ?_
  rintro en x10 ⟨rfl, hb⟩
  have sx10 : x9.heap.size ≤ x10.heap.size := hb.size
  replace hW := Lib.hid (hW.out.below hb)
  replace hra := Lib.hid (hra.out.below hb)
  replace hrb := Lib.hid (hrb.out.below hb)
  replace hrc := Lib.hid (hrc.out.below hb)
  replace hrd := Lib.hid (hrd.out.below hb)
  replace hrp := Lib.hid (hrp.out.below hb)
  replace hrq := Lib.hid (hrq.out.below hb)
  replace hrs := Lib.hid (hrs.out.below hb)
  replace hrt := Lib.hid (hrt.out.below hb)
  replace um := Lib.hid (um.out.map (fun h => h.below hb))
  replace ux := Lib.hid (ux.out.map (fun h => h.below hb))
  replace uy := Lib.hid (uy.out.map (fun h => h.below hb))
  replace uv := Lib.hid (uv.out.map (fun h => h.below hb))
  replace uz := Lib.hid (uz.out.map (fun h => h.below hb))
  replace km := Lib.hid (km.out.below hb km.out.lt)
  replace kx := Lib.hid (kx.out.below hb kx.out.lt)
  replace ky := Lib.hid (ky.out.below hb ky.out.lt)
  replace kv := Lib.hid (kv.out.below hb kv.out.lt)
  replace kz := Lib.hid (kz.out.below hb kz.out.lt)
  replace gB := Lib.hid (gB.out.trans (hb.mono gB.out.size))
  clear hb
  go_wp2_with fail
  refine (rsame_any Arp Arq nrp nrq crp crq _ _ (by omega) (by omega) gkP.out.1 gkP.out.1 true (decide_eq_true rfl) x10 (hrp.out.ens erp.out) (hrq.out.ens erq.out)).mono ?_
  rintro en x11 ⟨rfl, hb⟩
  have sx11 : x10.heap.size ≤ x11.heap.size := hb.size
  replace hW := Lib.hid (hW.out.below hb)
  replace hra := Lib.hid (hra.out.below hb)
  replace hrb := Lib.hid (hrb.out.below hb)
  replace hrc := Lib.hid (hrc.out.below hb)
  replace hrd := Lib.hid (hrd.out.below hb)
  replace hrp := Lib.hid (hrp.out.below hb)
  replace hrq := Lib.hid (hrq.out.below hb)
  replace hrs := Lib.hid (hrs.out.below hb)
  replace hrt := Lib.hid (hrt.out.below hb)
  replace um := Lib.hid (um.out.map (fun h => h.below hb))
  replace ux := Lib.hid (ux.out.map (fun h => h.below hb))
  replace uy := Lib.hid (uy.out.map (fun h => h.below hb))
  replace uv := Lib.hid (uv.out.map (fun h => h.below hb))
  replace uz := Lib.hid (uz.out.map (fun h => h.below hb))
  replace km := Lib.hid (km.out.below hb km.out.lt)
  replace kx := Lib.hid (kx.out.below hb kx.out.lt)
  replace ky := Lib.hid (ky.out.below hb ky.out.lt)
  replace kv := Lib.hid (kv.out.below hb kv.out.lt)
  replace kz := Lib.hid (kz.out.below hb kz.out.lt)
  replace gB := Lib.hid (gB.out.trans (hb.mono gB.out.size))
  clear hb
  have a0 : x11.cell? ⟨tx, 0, none⟩ = some (.int .i64 ox.x.nu) := by rw [kx.out.cell]; rfl
  have a1 : x11.cell? ⟨tx, 1, none⟩ = some (.int .i64 ox.x.ep) := by rw [kx.out.cell]; rfl
  have a2 : x11.cell? ⟨tx, 2, none⟩ = some (.int .i64 ox.x.cp) := by rw [kx.out.cell]; rfl
  have a3 : x11.cell? ⟨tx, 3, none⟩ = some (.bool ox.x.give.s.neg) := by rw [kx.out.cell]; rfl
  have a4 : x11.cell? ⟨tx, 4, none⟩ = some (.slice ox.X0 ox.x.give.s.ls.length ox.c0) := by rw [kx.out.cell]; rfl
  have a5 : x11.cell? ⟨tx, 5, none⟩ = some (.int .i64 ox.x.give.s.ex) := by rw [kx.out.cell]; rfl
  have a6 : x11.cell? ⟨tx, 6, none⟩ = some (.bool ox.x.give.w.neg) := by rw [kx.out.cell]; rfl
  have a7 : x11.cell? ⟨tx, 7, none⟩ = some (.slice ox.X1 ox.x.give.w.ls.length ox.c1) := by rw [kx.out.cell]; rfl
  have a8 : x11.cell? ⟨tx, 8, none⟩ = some (.int .i64 ox.x.give.w.ex) := by rw [kx.out.cell]; rfl
  have a9 : x11.cell? ⟨tx, 9, none⟩ = some (.bool ox.x.give.c.neg) := by rw [kx.out.cell]; rfl
  have a10 : x11.cell? ⟨tx, 10, none⟩ = some (.slice ox.X2 ox.x.give.c.ls.length ox.c2) := by rw [kx.out.cell]; rfl
  have a11 : x11.cell? ⟨tx, 11, none⟩ = some (.int .i64 ox.x.give.c.ex) := by rw [kx.out.cell]; rfl
  have a12 : x11.cell? ⟨tx, 12, none⟩ = some (.bool ox.x.give.a.neg) := by rw [kx.out.cell]; rfl
  have a13 : x11.cell? ⟨tx, 13, none⟩ = some (.slice ox.X3 ox.x.give.a.ls.length ox.c3) := by rw [kx.out.cell]; rfl
  have a14 : x11.cell? ⟨tx, 14, none⟩ = some (.int .i64 ox.x.give.a.ex) := by rw [kx.out.cell]; rfl
  have b0 : x11.cell? ⟨ty, 0, none⟩ = some (.int .i64 oy.x.nu) := by rw [ky.out.cell]; rfl
  have b1 : x11.cell? ⟨ty, 1, none⟩ = some (.int .i64 oy.x.ep) := by rw [ky.out.cell]; rfl
  have b2 : x11.cell? ⟨ty, 2, none⟩ = some (.int .i64 oy.x.cp) := by rw [ky.out.cell]; rfl
  have b3 : x11.cell? ⟨ty, 3, none⟩ = some (.bool oy.x.give.s.neg) := by rw [ky.out.cell]; rfl
  have b4 : x11.cell? ⟨ty, 4, none⟩ = some (.slice oy.X0 oy.x.give.s.ls.length oy.c0) := by rw [ky.out.cell]; rfl
  have b5 : x11.cell? ⟨ty, 5, none⟩ = some (.int .i64 oy.x.give.s.ex) := by rw [ky.out.cell]; rfl
  have b6 : x11.cell? ⟨ty, 6, none⟩ = some (.bool oy.x.give.w.neg) := by rw [ky.out.cell]; rfl
  have b7 : x11.cell? ⟨ty, 7, none⟩ = some (.slice oy.X1 oy.x.give.w.ls.length oy.c1) := by rw [ky.out.cell]; rfl
  have b8 : x11.cell? ⟨ty, 8, none⟩ = some (.int .i64 oy.x.give.w.ex) := by rw [ky.out.cell]; rfl
  have b9 : x11.cell? ⟨ty, 9, none⟩ = some (.bool oy.x.give.c.neg) := by rw [ky.out.cell]; rfl
  have b10 : x11.cell? ⟨ty, 10, none⟩ = some (.slice oy.X2 oy.x.give.c.ls.length oy.c2) := by rw [ky.out.cell]; rfl
  have b11 : x11.cell? ⟨ty, 11, none⟩ = some (.int .i64 oy.x.give.c.ex) := by rw [ky.out.cell]; rfl
  have b12 : x11.cell? ⟨ty, 12, none⟩ = some (.bool oy.x.give.a.neg) := by rw [ky.out.cell]; rfl
  have b13 : x11.cell? ⟨ty, 13, none⟩ = some (.slice oy.X3 oy.x.give.a.ls.length oy.c3) := by rw [ky.out.cell]; rfl
  have b14 : x11.cell? ⟨ty, 14, none⟩ = some (.int .i64 oy.x.give.a.ex) := by rw [ky.out.cell]; rfl
  go_wp2_with fail
  clear a0 a1 a2 a3 a4 a5 a6 a7 a8 a9 a10 a11 a12 a13 a14 b0 b1 b2 b3 b4 b5 b6 b7 b8 b9 b10 b11 b12 b13 b14
  refine (rone_any ox.x.nu ox.x.ep ox.x.cp oy.x.nu oy.x.ep oy.x.cp _ _ _ _ _ _ _ _ _ _ _ _ _ _ _ _ _ _ _ _ _ _ _ _ _ _ _ _ _ _ _ _ _ _ _ _ _ _ _ _  ox.x.give oy.x.give (by rw [fx.out]; exact gxP.out) (by rw [fy.out]; exact gxP.out) true (decide_eq_true (by rw [fx.out, fy.out])) x11 ux.out.rdM uy.out.rdM).mono ?_
  rintro en x12 ⟨rfl, hb⟩
  have sx12 : x11.heap.size ≤ x12.heap.size := hb.size
  replace hW := Lib.hid (hW.out.below hb)
  replace hra := Lib.hid (hra.out.below hb)
  replace hrb := Lib.hid (hrb.out.below hb)
  replace hrc := Lib.hid (hrc.out.below hb)
  replace hrd := Lib.hid (hrd.out.below hb)
  replace hrp := Lib.hid (hrp.out.below hb)
  replace hrq := Lib.hid (hrq.out.below hb)
  replace hrs := Lib.hid (hrs.out.below hb)
  replace hrt := Lib.hid (hrt.out.below hb)
  replace um := Lib.hid (um.out.map (fun h => h.below hb))
  replace ux := Lib.hid (ux.out.map (fun h => h.below hb))
  replace uy := Lib.hid (uy.out.map (fun h => h.below hb))
  replace uv := Lib.hid (uv.out.map (fun h => h.below hb))
  replace uz := Lib.hid (uz.out.map (fun h => h.below hb))
  replace km := Lib.hid (km.out.below hb km.out.lt)
  replace kx := Lib.hid (kx.out.below hb kx.out.lt)
  replace ky := Lib.hid (ky.out.below hb ky.out.lt)
  replace kv := Lib.hid (kv.out.below hb kv.out.lt)
  replace kz := Lib.hid (kz.out.below hb kz.out.lt)
  replace gB := Lib.hid (gB.out.trans (hb.mono gB.out.size))
  clear hb
  go_wp2_with fail
  refine (rsame_any Ars Art nrs nrt crs crt _ _ (by omega) (by omega) gkS.out.1 gkS.out.1 true (decide_eq_true rfl) x12 (hrs.out.ens ers.out) (hrt.out.ens ert.out)).mono ?_
  rintro en x13 ⟨rfl, hb⟩
  have sx13 : x12.heap.size ≤ x13.heap.size := hb.size
  replace hW := Lib.hid (hW.out.below hb)
  replace hra := Lib.hid (hra.out.below hb)
  replace hrb := Lib.hid (hrb.out.below hb)
  replace hrc := Lib.hid (hrc.out.below hb)
  replace hrd := Lib.hid (hrd.out.below hb)
  replace hrp := Lib.hid (hrp.out.below hb)
  replace hrq := Lib.hid (hrq.out.below hb)
  replace hrs := Lib.hid (hrs.out.below hb)
  replace hrt := Lib.hid (hrt.out.below hb)
  replace um := Lib.hid (um.out.map (fun h => h.below hb))
  replace ux := Lib.hid (ux.out.map (fun h => h.below hb))
  replace uy := Lib.hid (uy.out.map (fun h => h.below hb))
  replace uv := Lib.hid (uv.out.map (fun h => h.below hb))
  replace uz := Lib.hid (uz.out.map (fun h => h.below hb))
  replace km := Lib.hid (km.out.below hb km.out.lt)
  replace kx := Lib.hid (kx.out.below hb kx.out.lt)
  replace ky := Lib.hid (ky.out.below hb ky.out.lt)
  replace kv := Lib.hid (kv.out.below hb kv.out.lt)
  replace kz := Lib.hid (kz.out.below hb kz.out.lt)
  replace gB := Lib.hid (gB.out.trans (hb.mono gB.out.size))
  clear hb
  have a0 : x13.cell? ⟨tv, 0, none⟩ = some (.int .i64 ov.x.nu) := by rw [kv.out.cell]; rfl
  have a1 : x13.cell? ⟨tv, 1, none⟩ = some (.int .i64 ov.x.ep) := by rw [kv.out.cell]; rfl
  have a2 : x13.cell? ⟨tv, 2, none⟩ = some (.int .i64 ov.x.cp) := by rw [kv.out.cell]; rfl
  have a3 : x13.cell? ⟨tv, 3, none⟩ = some (.bool ov.x.give.s.neg) := by rw [kv.out.cell]; rfl
  have a4 : x13.cell? ⟨tv, 4, none⟩ = some (.slice ov.X0 ov.x.give.s.ls.length ov.c0) := by rw [kv.out.cell]; rfl
  have a5 : x13.cell? ⟨tv, 5, none⟩ = some (.int .i64 ov.x.give.s.ex) := by rw [kv.out.cell]; rfl
  have a6 : x13.cell? ⟨tv, 6, none⟩ = some (.bool ov.x.give.w.neg) := by rw [kv.out.cell]; rfl
  have a7 : x13.cell? ⟨tv, 7, none⟩ = some (.slice ov.X1 ov.x.give.w.ls.length ov.c1) := by rw [kv.out.cell]; rfl
  have a8 : x13.cell? ⟨tv, 8, none⟩ = some (.int .i64 ov.x.give.w.ex) := by rw [kv.out.cell]; rfl
  have a9 : x13.cell? ⟨tv, 9, none⟩ = some (.bool ov.x.give.c.neg) := by rw [kv.out.cell]; rfl
  have a10 : x13.cell? ⟨tv, 10, none⟩ = some (.slice ov.X2 ov.x.give.c.ls.length ov.c2) := by rw [kv.out.cell]; rfl
  have a11 : x13.cell? ⟨tv, 11, none⟩ = some (.int .i64 ov.x.give.c.ex) := by rw [kv.out.cell]; rfl
  have a12 : x13.cell? ⟨tv, 12, none⟩ = some (.bool ov.x.give.a.neg) := by rw [kv.out.cell]; rfl
  have a13 : x13.cell? ⟨tv, 13, none⟩ = some (.slice ov.X3 ov.x.give.a.ls.length ov.c3) := by rw [kv.out.cell]; rfl
  have a14 : x13.cell? ⟨tv, 14, none⟩ = some (.int .i64 ov.x.give.a.ex) := by rw [kv.out.cell]; rfl
  have b0 : x13.cell? ⟨tz, 0, none⟩ = some (.int .i64 oz.x.nu) := by rw [kz.out.cell]; rfl
  have b1 : x13.cell? ⟨tz, 1, none⟩ = some (.int .i64 oz.x.ep) := by rw [kz.out.cell]; rfl
  have b2 : x13.cell? ⟨tz, 2, none⟩ = some (.int .i64 oz.x.cp) := by rw [kz.out.cell]; rfl
  have b3 : x13.cell? ⟨tz, 3, none⟩ = some (.bool oz.x.give.s.neg) := by rw [kz.out.cell]; rfl
  have b4 : x13.cell? ⟨tz, 4, none⟩ = some (.slice oz.X0 oz.x.give.s.ls.length oz.c0) := by rw [kz.out.cell]; rfl
  have b5 : x13.cell? ⟨tz, 5, none⟩ = some (.int .i64 oz.x.give.s.ex) := by rw [kz.out.cell]; rfl
  have b6 : x13.cell? ⟨tz, 6, none⟩ = some (.bool oz.x.give.w.neg) := by rw [kz.out.cell]; rfl
  have b7 : x13.cell? ⟨tz, 7, none⟩ = some (.slice oz.X1 oz.x.give.w.ls.length oz.c1) := by rw [kz.out.cell]; rfl
  have b8 : x13.cell? ⟨tz, 8, none⟩ = some (.int .i64 oz.x.give.w.ex) := by rw [kz.out.cell]; rfl
  have b9 : x13.cell? ⟨tz, 9, none⟩ = some (.bool oz.x.give.c.neg) := by rw [kz.out.cell]; rfl
  have b10 : x13.cell? ⟨tz, 10, none⟩ = some (.slice oz.X2 oz.x.give.c.ls.length oz.c2) := by rw [kz.out.cell]; rfl
  have b11 : x13.cell? ⟨tz, 11, none⟩ = some (.int .i64 oz.x.give.c.ex) := by rw [kz.out.cell]; rfl
  have b12 : x13.cell? ⟨tz, 12, none⟩ = some (.bool oz.x.give.a.neg) := by rw [kz.out.cell]; rfl
  have b13 : x13.cell? ⟨tz, 13, none⟩ = some (.slice oz.X3 oz.x.give.a.ls.length oz.c3) := by rw [kz.out.cell]; rfl
  have b14 : x13.cell? ⟨tz, 14, none⟩ = some (.int .i64 oz.x.give.a.ex) := by rw [kz.out.cell]; rfl
  go_wp2_with fail
  clear a0 a1 a2 a3 a4 a5 a6 a7 a8 a9 a10 a11 a12 a13 a14 b0 b1 b2 b3 b4 b5 b6 b7 b8 b9 b10 b11 b12 b13 b14
  refine (rone_any ov.x.nu ov.x.ep ov.x.cp oz.x.nu oz.x.ep oz.x.cp _ _ _ _ _ _ _ _ _ _ _ _ _ _ _ _ _ _ _ _ _ _ _ _ _ _ _ _ _ _ _ _ _ _ _ _ _ _ _ _  ov.x.give oz.x.give (by rw [fv.out]; exact gxS.out) (by rw [fz.out]; exact gxS.out) true (decide_eq_true (by rw [fv.out, fz.out])) x13 uv.out.rdM uz.out.rdM).mono ?_
  rintro en x14 ⟨rfl, hb⟩
  have sx14 : x13.heap.size ≤ x14.heap.size := hb.size
  replace hW := Lib.hid (hW.out.below hb)
  replace hra := Lib.hid (hra.out.below hb)
  replace hrb := Lib.hid (hrb.out.below hb)
  replace hrc := Lib.hid (hrc.out.below hb)
  replace hrd := Lib.hid (hrd.out.below hb)
  replace hrp := Lib.hid (hrp.out.below hb)
  replace hrq := Lib.hid (hrq.out.below hb)
  replace hrs := Lib.hid (hrs.out.below hb)
  replace hrt := Lib.hid (hrt.out.below hb)
  replace um := Lib.hid (um.out.map (fun h => h.below hb))
  replace ux := Lib.hid (ux.out.map (fun h => h.below hb))
  replace uy := Lib.hid (uy.out.map (fun h => h.below hb))
  replace uv := Lib.hid (uv.out.map (fun h => h.below hb))
  replace uz := Lib.hid (uz.out.map (fun h => h.below hb))
  replace km := Lib.hid (km.out.below hb km.out.lt)
  replace kx := Lib.hid (kx.out.below hb kx.out.lt)
  replace ky := Lib.hid (ky.out.below hb ky.out.lt)
  replace kv := Lib.hid (kv.out.below hb kv.out.lt)
  replace kz := Lib.hid (kz.out.below hb kz.out.lt)
  replace gB := Lib.hid (gB.out.trans (hb.mono gB.out.size))
  clear hb
  go_wp2_with fail
  refine (fcheck_any Ao n co l (by unfold maxLen; omega) x14 (hW.out.ens eW.out)).mono ?_
  rintro en x15 ⟨E8, rfl, hE8, hb⟩
  have gE8 := Lib.hid hE8
  clear hE8
  have sx15 : x14.heap.size ≤ x15.heap.size := hb.size
  replace hW := Lib.hid (hW.out.below hb)
  replace hra := Lib.hid (hra.out.below hb)
  replace hrb := Lib.hid (hrb.out.below hb)
  replace hrc := Lib.hid (hrc.out.below hb)
  replace hrd := Lib.hid (hrd.out.below hb)
  replace hrp := Lib.hid (hrp.out.below hb)
  replace hrq := Lib.hid (hrq.out.below hb)
  replace hrs := Lib.hid (hrs.out.below hb)
  replace hrt := Lib.hid (hrt.out.below hb)
  replace um := Lib.hid (um.out.map (fun h => h.below hb))
  replace ux := Lib.hid (ux.out.map (fun h => h.below hb))
  replace uy := Lib.hid (uy.out.map (fun h => h.below hb))
  replace uv := Lib.hid (uv.out.map (fun h => h.below hb))
  replace uz := Lib.hid (uz.out.map (fun h => h.below hb))
  replace km := Lib.hid (km.out.below hb km.out.lt)
  replace kx := Lib.hid (kx.out.below hb kx.out.lt)
  replace ky := Lib.hid (ky.out.below hb ky.out.lt)
  replace kv := Lib.hid (kv.out.below hb kv.out.lt)
  replace kz := Lib.hid (kz.out.below hb kz.out.lt)
  replace gB := Lib.hid (gB.out.trans (hb.mono gB.out.size))
  clear hb
  go_wp2_with fail
  refine (rfcheck_any A n c l (by unfold maxLen; omega) x15 (gL.out _ gB.out)).mono ?_
  rintro en x16 ⟨E9, rfl, hE9, hb⟩
  obtain hE := chk_one gE8.out hE9
  clear hE9 gE8
  subst hE
  first | have qE8 : (E8 == E8) = true := (by simp) | have qE8 : (E9 == E9) = true := (by simp)
  have sx16 : x15.heap.size ≤ x16.heap.size := hb.size
  replace hW := Lib.hid (hW.out.below hb)
  replace hra := Lib.hid (hra.out.below hb)
  replace hrb := Lib.hid (hrb.out.below hb)
  replace hrc := Lib.hid (hrc.out.below hb)
  replace hrd := Lib.hid (hrd.out.below hb)
  replace hrp := Lib.hid (hrp.out.below hb)
  replace hrq := Lib.hid (hrq.out.below hb)
  replace hrs := Lib.hid (hrs.out.below hb)
  replace hrt := Lib.hid (hrt.out.below hb)
  replace um := Lib.hid (um.out.map (fun h => h.below hb))
  replace ux := Lib.hid (ux.out.map (fun h => h.below hb))
  replace uy := Lib.hid (uy.out.map (fun h => h.below hb))
  replace uv := Lib.hid (uv.out.map (fun h => h.below hb))
  replace uz := Lib.hid (uz.out.map (fun h => h.below hb))
  replace km := Lib.hid (km.out.below hb km.out.lt)
  replace kx := Lib.hid (kx.out.below hb kx.out.lt)
  replace ky := Lib.hid (ky.out.below hb ky.out.lt)
  replace kv := Lib.hid (kv.out.below hb kv.out.lt)
  replace kz := Lib.hid (kz.out.below hb kz.out.lt)
  replace gB := Lib.hid (gB.out.trans (hb.mono gB.out.size))
  clear hb
  go_upto_region 14 with fail
  have key := tells_three A n c l N e bX0 bc0 bX1 bc1 bX2 bc2 bX3 bc3 mx w w2 wc x1 x2 x3 x4 x5 y5 x6 y6 x7 y7 x8 y8 x9 x10 x11 x12 x13 x14 x15 x16 Ao co oW g om Ara nra cra ora Arb nrb crb orb Arc nrc crc orc Ard nrd crd ord Arp nrp crp orp Arq nrq crq orq Ars nrs crs ors Art nrt crt ort lra Era lrc Erc lrp Erp lrs Ers zrp zrs ox tx oy ty ov tv oz tz hnc hnx hn10 gln gs gsx gl20 gL gXm gCel hB2 gB sB eW em gkW sx1 sx2 sx3 sx4 sx5 sy5 sx6 sy6 sx7 sy7 sx8 sy8 sx9 sx10 sx11 sx12 sx13 sx14 sx15 sx16 gkA gkC gkP gkS gxP gxS qEA qEC qEP qES hW iW hra ira era qra hrc irc erc qrc hrp irp erp qrp hrs irs ers qrs um jm ux jx apx fx uy jy apy fy uv jv apv fv km nm kx nx ky ny kv nv _ rfl
  dsimp only [fstC, sndC] at key
  refine key _ _ _ _ _ _ _ _ _ _ _ _ _ _ _ _ _ _ _ _ _ _ _ _ _ _ _ _ _ _ _ _ _ _ _ _ _ _ _ _ _ _ _ _ _ _ _ _ _ _ _ _ _ _ _ _ _ _ _ _ _ _ _ _ _ _ _ _ _ _ _ _ _ _ _ _ _ _ _ _ _ _ _ _ _ _ _ _ _ _ _ _ _ _ _ _ _ _ _ _ _ _ _ _ _ _ _ _ _ _ _ _ _ _ _ _ _ _ _ _ _ _ _ _ _ _ _ _ _ _ _ _ _ _ _ _ _ _ _ _ _ _ _ _ _ _ _ _ _ _ _ _ _ _ _ _ _ _ _ _ _ _ _ _ _ _ _ _ _ _ _ _ rfl ?_
  assumption
set_option maxRecDepth 100000 in
set_option maxHeartbeats 64000000 in
theorem FlightTells.walk (A : Option Addr) (n c : Nat) (l : List En) (hnc : n ≤ c) (hnx : n ≤ maxLen) (N e : Int) (bg0 : Bool) (bX0 : Option Addr) (bn0 bc0 : Nat) (be0 : Int) (bg1 : Bool) (bX1 : Option Addr) (bn1 bc1 : Nat) (be1 : Int) (bg2 : Bool) (bX2 : Option Addr) (bn2 bc2 : Nat) (be2 : Int) (bg3 : Bool) (bX3 : Option Addr) (bn3 bc3 : Nat) (be3 : Int) (mx : Ms) (w : World) (h : Ens w w.heap.size A n l) (hx : RdM w w.heap.size bg0 bX0 bn0 bc0 be0 bg1 bX1 bn1 bc1 be1 bg2 bX2 bn2 bc2 be2 bg3 bX3 bn3 bc3 be3 mx) : Calls Try.prog 3 #[.slice A n c, .int .i64 N, .int .i64 e, .agg #[.bool bg0, .slice bX0 bn0 bc0, .int .i64 be0, .bool bg1, .slice bX1 bn1 bc1, .int .i64 be1, .bool bg2, .slice bX2 bn2 bc2, .int .i64 be2, .bool bg3, .slice bX3 bn3 bc3, .int .i64 be3]] w fun en w' => en = .returned (.bool true) ∧ Below w.heap.size w w' := by
  have gx := Lib.hid hx
  obtain ⟨⟨rfl, rfl, rfl, bh0, br0⟩, ⟨rfl, rfl, rfl, bh1, br1⟩, ⟨rfl, rfl, rfl, bh2, br2⟩, ⟨rfl, rfl, rfl, bh3, br3⟩⟩ := hx
  clear bh0 br0 bh1 br1 bh2 br2 bh3 br3
  have gh := Lib.hid h
  have gln := Lib.hid (ens_len h)
  obtain ⟨V, hV⟩ : ∃ V, V = w.alloc (.cells #[.bool mx.s.neg, .slice bX0 mx.s.ls.length bc0, .int .i64 mx.s.ex, .bool mx.w.neg, .slice bX1 mx.w.ls.length bc1, .int .i64 mx.w.ex, .bool mx.c.neg, .slice bX2 mx.c.ls.length bc2, .int .i64 mx.c.ex, .bool mx.a.neg, .slice bX3 mx.a.ls.length bc3, .int .i64 mx.a.ex] 27) := ⟨_, rfl⟩
  have hBV : Below w.heap.size w V := by rw [hV]; exact (Below.refl _ _).alloc (Nat.le_refl _) _
  have kb : Blk V w.heap.size 27 #[.bool mx.s.neg, .slice bX0 mx.s.ls.length bc0, .int .i64 mx.s.ex, .bool mx.w.neg, .slice bX1 mx.w.ls.length bc1, .int .i64 mx.w.ex, .bool mx.c.neg, .slice bX2 mx.c.ls.length bc2, .int .i64 mx.c.ex, .bool mx.a.neg, .slice bX3 mx.a.ls.length bc3, .int .i64 mx.a.ex] := by rw [hV]; exact Blk.new w _ _
  have hg1 := lgreat_any A n c l hnx V (Recs.more (Recs.below h hBV) hBV.size)
  clear h
  go_enter Try.func3, Try.ntmps3
  go_wp2_with fail
  rw [← hV]
  clear hV
  refine hg1.mono ?_
  rintro en w1 ⟨G, rfl, hb1, hG⟩
  have hB1 := hBV.trans (hb1.mono hBV.size)
  clear hg1
  cases G with
  | true =>
    clear hG kb
    go_wp2
    go_ret
    exact ⟨rfl, hB1⟩
  | false =>
    have gG := Lib.hid (hG rfl)
    clear hG
    obtain ⟨R, hR⟩ : ∃ R, grM mx.s.ls.length mx.s.ex mx.w.ls.length mx.w.ex mx.c.ls.length mx.c.ex mx.a.ls.length mx.a.ex = R := ⟨_, rfl⟩
    have hg2 := mgreat_any mx.s.neg bX0 mx.s.ls.length bc0 mx.s.ex mx.w.neg bX1 mx.w.ls.length bc1 mx.w.ex mx.c.neg bX2 mx.c.ls.length bc2 mx.c.ex mx.a.neg bX3 mx.a.ls.length bc3 mx.a.ex R hR w1
    have gR := Lib.hid hR
    clear hR
    have b0 : w1.cell? ⟨w.heap.size, 0, none⟩ = some (.bool mx.s.neg) := by rw [(kb.below hb1 kb.lt).cell]; rfl
    have b1 : w1.cell? ⟨w.heap.size, 1, none⟩ = some (.slice bX0 mx.s.ls.length bc0) := by rw [(kb.below hb1 kb.lt).cell]; rfl
    have b2 : w1.cell? ⟨w.heap.size, 2, none⟩ = some (.int .i64 mx.s.ex) := by rw [(kb.below hb1 kb.lt).cell]; rfl
    have b3 : w1.cell? ⟨w.heap.size, 3, none⟩ = some (.bool mx.w.neg) := by rw [(kb.below hb1 kb.lt).cell]; rfl
    have b4 : w1.cell? ⟨w.heap.size, 4, none⟩ = some (.slice bX1 mx.w.ls.length bc1) := by rw [(kb.below hb1 kb.lt).cell]; rfl
    have b5 : w1.cell? ⟨w.heap.size, 5, none⟩ = some (.int .i64 mx.w.ex) := by rw [(kb.below hb1 kb.lt).cell]; rfl
    have b6 : w1.cell? ⟨w.heap.size, 6, none⟩ = some (.bool mx.c.neg) := by rw [(kb.below hb1 kb.lt).cell]; rfl
    have b7 : w1.cell? ⟨w.heap.size, 7, none⟩ = some (.slice bX2 mx.c.ls.length bc2) := by rw [(kb.below hb1 kb.lt).cell]; rfl
    have b8 : w1.cell? ⟨w.heap.size, 8, none⟩ = some (.int .i64 mx.c.ex) := by rw [(kb.below hb1 kb.lt).cell]; rfl
    have b9 : w1.cell? ⟨w.heap.size, 9, none⟩ = some (.bool mx.a.neg) := by rw [(kb.below hb1 kb.lt).cell]; rfl
    have b10 : w1.cell? ⟨w.heap.size, 10, none⟩ = some (.slice bX3 mx.a.ls.length bc3) := by rw [(kb.below hb1 kb.lt).cell]; rfl
    have b11 : w1.cell? ⟨w.heap.size, 11, none⟩ = some (.int .i64 mx.a.ex) := by rw [(kb.below hb1 kb.lt).cell]; rfl
    go_wp2_with fail
    refine hg2.mono ?_
    rintro en w2 ⟨rfl, hb2⟩
    have hB2 := hB1.trans (hb2.mono hB1.size)
    have kb2 := (kb.below hb1 kb.lt).below hb2 (Nat.lt_of_lt_of_le kb.lt hb1.size)
    clear hg2 hb2 hb1 kb b0 b1 b2 b3 b4 b5 b6 b7 b8 b9 b10 b11
    cases R with
    | true =>
      clear kb2
      go_wp2
      go_ret
      exact ⟨rfl, hB2⟩
    | false =>
      have gsx := Lib.hid (grM_sm gR.out)
      have gs := Lib.hid (fine_sm gG.out.2)
      have gl20 := Lib.hid gG.out.1
      have hn10 : n ≤ 10000 := by have h1 := gl20.out; have h2 := gln.out; rw [h2] at h1; omega
      have gL : Hid (∀ v', Below w2.heap.size w2 v' → Ens v' v'.heap.size A n l) := Lib.hid (fun v' hb => Recs.more (Recs.below gh.out (hB2.trans (hb.mono hB2.size))) (Nat.le_trans hB2.size hb.size))
      have gXm : Hid (∀ v', Below w2.heap.size w2 v' → RdM v' v'.heap.size mx.s.neg bX0 mx.s.ls.length bc0 mx.s.ex mx.w.neg bX1 mx.w.ls.length bc1 mx.w.ex mx.c.neg bX2 mx.c.ls.length bc2 mx.c.ex mx.a.neg bX3 mx.a.ls.length bc3 mx.a.ex mx) := Lib.hid (fun v' hb => gx.out.below (hB2.trans (hb.mono hB2.size)) (Nat.le_trans hB2.size hb.size))
      have SV : ∀ w', Below w2.heap.size w2 w' → w'.cell? ⟨w.heap.size, 0, none⟩ = some (.bool mx.s.neg) ∧ w'.cell? ⟨w.heap.size, 1, none⟩ = some (.slice bX0 mx.s.ls.length bc0) ∧ w'.cell? ⟨w.heap.size, 2, none⟩ = some (.int .i64 mx.s.ex) ∧ w'.cell? ⟨w.heap.size, 3, none⟩ = some (.bool mx.w.neg) ∧ w'.cell? ⟨w.heap.size, 4, none⟩ = some (.slice bX1 mx.w.ls.length bc1) ∧ w'.cell? ⟨w.heap.size, 5, none⟩ = some (.int .i64 mx.w.ex) ∧ w'.cell? ⟨w.heap.size, 6, none⟩ = some (.bool mx.c.neg) ∧ w'.cell? ⟨w.heap.size, 7, none⟩ = some (.slice bX2 mx.c.ls.length bc2) ∧ w'.cell? ⟨w.heap.size, 8, none⟩ = some (.int .i64 mx.c.ex) ∧ w'.cell? ⟨w.heap.size, 9, none⟩ = some (.bool mx.a.neg) ∧ w'.cell? ⟨w.heap.size, 10, none⟩ = some (.slice bX3 mx.a.ls.length bc3) ∧ w'.cell? ⟨w.heap.size, 11, none⟩ = some (.int .i64 mx.a.ex) := by
        intro w' hw
        have k5 := kb2.below hw kb2.lt
        refine ⟨?_, ?_, ?_, ?_, ?_, ?_, ?_, ?_, ?_, ?_, ?_, ?_⟩ <;> (rw [k5.cell]; rfl)
      have gCel := Lib.hid SV
      have hT : ∀ w', Below w2.heap.size w2 w' → Calls Try.prog 8 #[.slice A n c] w' fun en w'' => ∃ Ao co oW, en = .returned (.slice Ao n co) ∧ oW.map (·.x) = l ∧ RowE w'' w'.heap.size Ao n co oW ∧ Below w'.heap.size w' w'' := fun w' hb => by
        refine (retwin_any A n c l hn10 gs.out w' (gL.out w' hb)).mono ?_
        rintro en w'' ⟨Ao, co, rfl, hT⟩
        obtain ⟨os, h1, h2⟩ := accE_row hT.2.2.2.2
        exact ⟨Ao, co, os, rfl, h1, h2, hT.2.2.2.1⟩
      have hM : ∀ w', Below w2.heap.size w2 w' → Calls Try.prog 9 #[.agg #[.bool mx.s.neg, .slice bX0 mx.s.ls.length bc0, .int .i64 mx.s.ex, .bool mx.w.neg, .slice bX1 mx.w.ls.length bc1, .int .i64 mx.w.ex, .bool mx.c.neg, .slice bX2 mx.c.ls.length bc2, .int .i64 mx.c.ex, .bool mx.a.neg, .slice bX3 mx.a.ls.length bc3, .int .i64 mx.a.ex]] w' fun en w'' => ∃ om : EO, en = .returned (.agg #[.bool om.x.give.s.neg, .slice om.X0 om.x.give.s.ls.length om.c0, .int .i64 om.x.give.s.ex, .bool om.x.give.w.neg, .slice om.X1 om.x.give.w.ls.length om.c1, .int .i64 om.x.give.w.ex, .bool om.x.give.c.neg, .slice om.X2 om.x.give.c.ls.length om.c2, .int .i64 om.x.give.c.ex, .bool om.x.give.a.neg, .slice om.X3 om.x.give.a.ls.length om.c3, .int .i64 om.x.give.a.ex]) ∧ om.x.give = mx ∧ ownE w'' w'.heap.size om ∧ Below w'.heap.size w' w'' := fun w' hb => by
        refine (rmtwin_any mx.s.neg bX0 mx.s.ls.length bc0 mx.s.ex mx.w.neg bX1 mx.w.ls.length bc1 mx.w.ex mx.c.neg bX2 mx.c.ls.length bc2 mx.c.ex mx.a.neg bX3 mx.a.ls.length bc3 mx.a.ex mx gsx.out w' (gXm.out w' hb)).mono ?_
        rintro en w'' ⟨X0, c0, X1, c1, X2, c2, X3, c3, rfl, o0, o1, o2, o3, hbM⟩
        exact ⟨⟨⟨0, 0, 0, mx⟩, X0, c0, X1, c1, X2, c2, X3, c3⟩, rfl, rfl, ⟨o0, o1, o2, o3⟩, hbM⟩
      have hV0 : Below w2.heap.size w2 w2 := Below.refl _ _
      obtain ⟨b0, b1, b2, b3, b4, b5, b6, b7, b8, b9, b10, b11⟩ := SV w2 hV0
      clear kb2 gR gG
      go_upto_region 3 with fail
      go_cut [9, 10] (fun s9 s10 wx => Mid w2 n l mx s9 s10 wx)
      case first =>
        go_region_held3 (fun w' => w'.cell? ⟨w.heap.size, 0, none⟩ = some (.bool mx.s.neg) ∧ w'.cell? ⟨w.heap.size, 1, none⟩ = some (.slice bX0 mx.s.ls.length bc0) ∧ w'.cell? ⟨w.heap.size, 2, none⟩ = some (.int .i64 mx.s.ex) ∧ w'.cell? ⟨w.heap.size, 3, none⟩ = some (.bool mx.w.neg) ∧ w'.cell? ⟨w.heap.size, 4, none⟩ = some (.slice bX1 mx.w.ls.length bc1) ∧ w'.cell? ⟨w.heap.size, 5, none⟩ = some (.int .i64 mx.w.ex) ∧ w'.cell? ⟨w.heap.size, 6, none⟩ = some (.bool mx.c.neg) ∧ w'.cell? ⟨w.heap.size, 7, none⟩ = some (.slice bX2 mx.c.ls.length bc2) ∧ w'.cell? ⟨w.heap.size, 8, none⟩ = some (.int .i64 mx.c.ex) ∧ w'.cell? ⟨w.heap.size, 9, none⟩ = some (.bool mx.a.neg) ∧ w'.cell? ⟨w.heap.size, 10, none⟩ = some (.slice bX3 mx.a.ls.length bc3) ∧ w'.cell? ⟨w.heap.size, 11, none⟩ = some (.int .i64 mx.a.ex)) ((refine SV _ ?_; (repeat first | with_reducible assumption | with_reducible exact Below.refl _ _ | with_reducible refine Below.drew ?_ | (with_reducible refine Below.setCell ?_ (by first | exact Nat.le_refl _ | (simp only [World.size_alloc, World.size_drew, World.size_setCell]; omega) | omega) _) | (with_reducible refine Below.alloc ?_ (by first | exact Nat.le_refl _ | (simp only [World.size_alloc, World.size_drew, World.size_setCell]; omega) | omega) _)))) (first | (go_at_call 8; (with_reducible refine (hT _ (by (repeat first | with_reducible assumption | with_reducible exact Below.refl _ _ | with_reducible refine Below.drew ?_ | (with_reducible refine Below.setCell ?_ (by first | exact Nat.le_refl _ | (simp only [World.size_alloc, World.size_drew, World.size_setCell]; omega) | omega) _) | (with_reducible refine Below.alloc ?_ (by first | exact Nat.le_refl _ | (simp only [World.size_alloc, World.size_drew, World.size_setCell]; omega) | omega) _)))).mono ?_); rintro en wT ⟨Ao, co, oW, rfl, eW, hrT, hbT⟩; have hbT2 : Below w2.heap.size w2 wT := Below.trans (by (repeat first | with_reducible assumption | with_reducible exact Below.refl _ _ | with_reducible refine Below.drew ?_ | (with_reducible refine Below.setCell ?_ (by first | exact Nat.le_refl _ | (simp only [World.size_alloc, World.size_drew, World.size_setCell]; omega) | omega) _) | (with_reducible refine Below.alloc ?_ (by first | exact Nat.le_refl _ | (simp only [World.size_alloc, World.size_drew, World.size_setCell]; omega) | omega) _))) (hbT.mono (by first | exact Nat.le_refl _ | (simp only [World.size_alloc, World.size_drew]; omega) | omega)); have hsT : w2.heap.size ≤ wT.heap.size := hbT2.size; have gT := Lib.hid (hrT.1); have gT2 := Lib.hid hrT; clear hrT; have geW := Lib.hid eW; clear eW) | (go_at_call 9; (with_reducible refine (hM _ (by (repeat first | with_reducible assumption | with_reducible exact Below.refl _ _ | with_reducible refine Below.drew ?_ | (with_reducible refine Below.setCell ?_ (by first | exact Nat.le_refl _ | (simp only [World.size_alloc, World.size_drew, World.size_setCell]; omega) | omega) _) | (with_reducible refine Below.alloc ?_ (by first | exact Nat.le_refl _ | (simp only [World.size_alloc, World.size_drew, World.size_setCell]; omega) | omega) _)))).mono ?_); rintro en wM ⟨om, rfl, em, hom, hbM⟩; have hbM2 : Below w2.heap.size w2 wM := Below.trans (by (repeat first | with_reducible assumption | with_reducible exact Below.refl _ _ | with_reducible refine Below.drew ?_ | (with_reducible refine Below.setCell ?_ (by first | exact Nat.le_refl _ | (simp only [World.size_alloc, World.size_drew, World.size_setCell]; omega) | omega) _) | (with_reducible refine Below.alloc ?_ (by first | exact Nat.le_refl _ | (simp only [World.size_alloc, World.size_drew, World.size_setCell]; omega) | omega) _))) (hbM.mono (by first | exact Nat.le_refl _ | (simp only [World.size_alloc, World.size_drew]; omega) | omega)); have hsM : w2.heap.size ≤ wM.heap.size := hbM2.size; have gM := Lib.hid hom; clear hom; have gem := Lib.hid em; clear em; first | (have kz : Blk wM wT.heap.size 27 #[.bool false, .slice none 0 0, .int .i64 0, .bool false, .slice none 0 0, .int .i64 0, .bool false, .slice none 0 0, .int .i64 0, .bool false, .slice none 0 0, .int .i64 0] := ((Blk.new _ _ _).below hbM (by first | (simp only [World.size_drew, World.size_alloc]; exact Nat.lt_succ_self _) | (have h9 := hbT.size; simp only [World.size_drew, World.size_alloc] at h9; omega) | (rw [World.size_alloc]; exact Nat.lt_succ_self _) | (have h9 := hbT.size; rw [World.size_alloc] at h9; simp only [World.size_drew] at h9; omega))); have z0 : wM.cell? ⟨wT.heap.size, 0, none⟩ = some (.bool false) := (by rw [kz.cell]; rfl); have y0 := kz.frozen 0; have z1 : wM.cell? ⟨wT.heap.size, 1, none⟩ = some (.slice none 0 0) := (by rw [kz.cell]; rfl); have y1 := kz.frozen 1; have z2 : wM.cell? ⟨wT.heap.size, 2, none⟩ = some (.int .i64 0) := (by rw [kz.cell]; rfl); have y2 := kz.frozen 2; have z3 : wM.cell? ⟨wT.heap.size, 3, none⟩ = some (.bool false) := (by rw [kz.cell]; rfl); have y3 := kz.frozen 3; have z4 : wM.cell? ⟨wT.heap.size, 4, none⟩ = some (.slice none 0 0) := (by rw [kz.cell]; rfl); have y4 := kz.frozen 4; have z5 : wM.cell? ⟨wT.heap.size, 5, none⟩ = some (.int .i64 0) := (by rw [kz.cell]; rfl); have y5 := kz.frozen 5; have z6 : wM.cell? ⟨wT.heap.size, 6, none⟩ = some (.bool false) := (by rw [kz.cell]; rfl); have y6 := kz.frozen 6; have z7 : wM.cell? ⟨wT.heap.size, 7, none⟩ = some (.slice none 0 0) := (by rw [kz.cell]; rfl); have y7 := kz.frozen 7; have z8 : wM.cell? ⟨wT.heap.size, 8, none⟩ = some (.int .i64 0) := (by rw [kz.cell]; rfl); have y8 := kz.frozen 8; have z9 : wM.cell? ⟨wT.heap.size, 9, none⟩ = some (.bool false) := (by rw [kz.cell]; rfl); have y9 := kz.frozen 9; have z10 : wM.cell? ⟨wT.heap.size, 10, none⟩ = some (.slice none 0 0) := (by rw [kz.cell]; rfl); have y10 := kz.frozen 10; have z11 : wM.cell? ⟨wT.heap.size, 11, none⟩ = some (.int .i64 0) := (by rw [kz.cell]; rfl); have y11 := kz.frozen 11) | (have kz : Blk wM w2.heap.size 27 #[.bool false, .slice none 0 0, .int .i64 0, .bool false, .slice none 0 0, .int .i64 0, .bool false, .slice none 0 0, .int .i64 0, .bool false, .slice none 0 0, .int .i64 0] := ((((Blk.new w2 _ _).drew).below hbT (by first | (simp only [World.size_drew, World.size_alloc]; exact Nat.lt_succ_self _) | (have h9 := hbT.size; simp only [World.size_drew, World.size_alloc] at h9; omega) | (rw [World.size_alloc]; exact Nat.lt_succ_self _) | (have h9 := hbT.size; rw [World.size_alloc] at h9; simp only [World.size_drew] at h9; omega))).below hbM (by first | (simp only [World.size_drew, World.size_alloc]; exact Nat.lt_succ_self _) | (have h9 := hbT.size; simp only [World.size_drew, World.size_alloc] at h9; omega) | (rw [World.size_alloc]; exact Nat.lt_succ_self _) | (have h9 := hbT.size; rw [World.size_alloc] at h9; simp only [World.size_drew] at h9; omega))); have z0 : wM.cell? ⟨w2.heap.size, 0, none⟩ = some (.bool false) := (by rw [kz.cell]; rfl); have y0 := kz.frozen 0; have z1 : wM.cell? ⟨w2.heap.size, 1, none⟩ = some (.slice none 0 0) := (by rw [kz.cell]; rfl); have y1 := kz.frozen 1; have z2 : wM.cell? ⟨w2.heap.size, 2, none⟩ = some (.int .i64 0) := (by rw [kz.cell]; rfl); have y2 := kz.frozen 2; have z3 : wM.cell? ⟨w2.heap.size, 3, none⟩ = some (.bool false) := (by rw [kz.cell]; rfl); have y3 := kz.frozen 3; have z4 : wM.cell? ⟨w2.heap.size, 4, none⟩ = some (.slice none 0 0) := (by rw [kz.cell]; rfl); have y4 := kz.frozen 4; have z5 : wM.cell? ⟨w2.heap.size, 5, none⟩ = some (.int .i64 0) := (by rw [kz.cell]; rfl); have y5 := kz.frozen 5; have z6 : wM.cell? ⟨w2.heap.size, 6, none⟩ = some (.bool false) := (by rw [kz.cell]; rfl); have y6 := kz.frozen 6; have z7 : wM.cell? ⟨w2.heap.size, 7, none⟩ = some (.slice none 0 0) := (by rw [kz.cell]; rfl); have y7 := kz.frozen 7; have z8 : wM.cell? ⟨w2.heap.size, 8, none⟩ = some (.int .i64 0) := (by rw [kz.cell]; rfl); have y8 := kz.frozen 8; have z9 : wM.cell? ⟨w2.heap.size, 9, none⟩ = some (.bool false) := (by rw [kz.cell]; rfl); have y9 := kz.frozen 9; have z10 : wM.cell? ⟨w2.heap.size, 10, none⟩ = some (.slice none 0 0) := (by rw [kz.cell]; rfl); have y10 := kz.frozen 10; have z11 : wM.cell? ⟨w2.heap.size, 11, none⟩ = some (.int .i64 0) := (by rw [kz.cell]; rfl); have y11 := kz.frozen 11) | skip))
        all_goals
          go_wp2_with fail
          go_meet
          first | exact mid_new wM.heap.size geW.out gem.out (rowE_base ((gT2.out.below hbM).below ((Below.refl _ _).alloc (Nat.le_refl _) _)) (by first | exact Nat.le_refl _ | (simp only [World.size_alloc, World.size_drew]; omega) | omega)) ((gM.out.map (fun h => h.below ((Below.refl _ _).alloc (Nat.le_refl _) _))).map (fun h => h.base_le (by first | exact Nat.le_refl _ | (simp only [World.size_alloc, World.size_drew]; omega) | omega))) (Blk.new _ _ _) (by first | exact Nat.le_refl _ | (simp only [World.size_alloc, World.size_drew]; omega) | omega) (by (repeat first | with_reducible assumption | with_reducible exact Below.refl _ _ | with_reducible refine Below.drew ?_ | (with_reducible refine Below.setCell ?_ (by first | exact Nat.le_refl _ | (simp only [World.size_alloc, World.size_drew, World.size_setCell]; omega) | omega) _) | (with_reducible refine Below.alloc ?_ (by first | exact Nat.le_refl _ | (simp only [World.size_alloc, World.size_drew, World.size_setCell]; omega) | omega) _))) | exact mid_done (wM) (wT.heap.size) (by unfold b12; with_reducible rfl) geW.out gem.out (rowE_base ((gT2.out.below ((Below.refl _ _).alloc (Nat.le_refl _) _)).below hbM) (by first | exact Nat.le_refl _ | (simp only [World.size_alloc, World.size_drew]; omega) | omega)) (gM.out.map (fun h => h.base_le (by first | exact Nat.le_refl _ | (simp only [World.size_alloc, World.size_drew]; omega) | omega))) (kz) (by first | exact Nat.le_refl _ | (simp only [World.size_alloc, World.size_drew]; omega) | omega) (by (repeat first | with_reducible assumption | with_reducible exact Below.refl _ _ | with_reducible refine Below.drew ?_ | (with_reducible refine Below.setCell ?_ (by first | exact Nat.le_refl _ | (simp only [World.size_alloc, World.size_drew, World.size_setCell]; omega) | omega) _) | (with_reducible refine Below.alloc ?_ (by first | exact Nat.le_refl _ | (simp only [World.size_alloc, World.size_drew, World.size_setCell]; omega) | omega) _))) | exact mid_done (wM) (w2.heap.size) (by unfold b12; with_reducible rfl) geW.out gem.out (rowE_base (gT2.out.below hbM) (by first | exact Nat.le_refl _ | (simp only [World.size_alloc, World.size_drew]; omega) | omega)) (gM.out.map (fun h => h.base_le (by first | exact Nat.le_refl _ | (simp only [World.size_alloc, World.size_drew]; omega) | omega))) (kz) (by first | exact Nat.le_refl _ | (simp only [World.size_alloc, World.size_drew]; omega) | omega) (by (repeat first | with_reducible assumption | with_reducible exact Below.refl _ _ | with_reducible refine Below.drew ?_ | (with_reducible refine Below.setCell ?_ (by first | exact Nat.le_refl _ | (simp only [World.size_alloc, World.size_drew, World.size_setCell]; omega) | omega) _) | (with_reducible refine Below.alloc ?_ (by first | exact Nat.le_refl _ | (simp only [World.size_alloc, World.size_drew, World.size_setCell]; omega) | omega) _)))
      case rest =>
      obtain ⟨Ao, co, oW, g, om, rfl, rfl, eW, em, hW, um, km, hgm, hB0⟩ := hcut.out
      replace eW := Lib.hid eW
      replace em := Lib.hid em
      have iW := Lib.hid hW.lim
      have jm : Hid (∀ b, hasB om b → w2.heap.size ≤ b ∧ b < wc.heap.size) := Lib.hid (fun b hb => by obtain ⟨p, cur, q⟩ := um.has hb; exact ⟨p, q.lt⟩)
      have nm : Hid (w2.heap.size ≤ g ∧ g < wc.heap.size) := Lib.hid ⟨hgm, km.lt⟩
      replace hW := Lib.hid hW
      replace um := Lib.hid um
      replace km := Lib.hid km
      have sB : w2.heap.size ≤ wc.heap.size := hB0.size
      have gB := Lib.hid hB0
      have gkW : Hid ((∀ x ∈ l, smM x.give) ∧ l.length ≤ 1000) := Lib.hid ⟨gs.out, by have := gl20.out; omega⟩
      clear hB0 hgm hT hM SV hV0 b0 b1 b2 b3 b4 b5 b6 b7 b8 b9 b10 b11
      have a0 : wc.cell? ⟨g, 0, none⟩ = some (.bool om.x.give.s.neg) := by rw [km.out.cell]; rfl
      have a1 : wc.cell? ⟨g, 1, none⟩ = some (.slice om.X0 om.x.give.s.ls.length om.c0) := by rw [km.out.cell]; rfl
      have a2 : wc.cell? ⟨g, 2, none⟩ = some (.int .i64 om.x.give.s.ex) := by rw [km.out.cell]; rfl
      have a3 : wc.cell? ⟨g, 3, none⟩ = some (.bool om.x.give.w.neg) := by rw [km.out.cell]; rfl
      have a4 : wc.cell? ⟨g, 4, none⟩ = some (.slice om.X1 om.x.give.w.ls.length om.c1) := by rw [km.out.cell]; rfl
      have a5 : wc.cell? ⟨g, 5, none⟩ = some (.int .i64 om.x.give.w.ex) := by rw [km.out.cell]; rfl
      have a6 : wc.cell? ⟨g, 6, none⟩ = some (.bool om.x.give.c.neg) := by rw [km.out.cell]; rfl
      have a7 : wc.cell? ⟨g, 7, none⟩ = some (.slice om.X2 om.x.give.c.ls.length om.c2) := by rw [km.out.cell]; rfl
      have a8 : wc.cell? ⟨g, 8, none⟩ = some (.int .i64 om.x.give.c.ex) := by rw [km.out.cell]; rfl
      have a9 : wc.cell? ⟨g, 9, none⟩ = some (.bool om.x.give.a.neg) := by rw [km.out.cell]; rfl
      have a10 : wc.cell? ⟨g, 10, none⟩ = some (.slice om.X3 om.x.give.a.ls.length om.c3) := by rw [km.out.cell]; rfl
      have a11 : wc.cell? ⟨g, 11, none⟩ = some (.int .i64 om.x.give.a.ex) := by rw [km.out.cell]; rfl
      go_wp2_with fail
      clear a0 a1 a2 a3 a4 a5 a6 a7 a8 a9 a10 a11
      refine (launch_any Ao n co l hn10 gs.out N e om.x.give.s.neg om.X0 om.x.give.s.ls.length om.c0 om.x.give.s.ex om.x.give.w.neg om.X1 om.x.give.w.ls.length om.c1 om.x.give.w.ex om.x.give.c.neg om.X2 om.x.give.c.ls.length om.c2 om.x.give.c.ex om.x.give.a.neg om.X3 om.x.give.a.ls.length om.c3 om.x.give.a.ex om.x.give (by rw [em.out]; exact gsx.out) wc (hW.out.ens eW.out) um.out.rdM).mono ?_
      rintro en x1 ⟨lra, vra, Era, rfl, hF, hO⟩
      obtain ⟨Ara, nra, cra, ora, rfl, he, hr, hi, hl, hb⟩ := outE_row hO
      clear hO
      rw [em.out] at hF
      have gA := Lib.hid hF
      have gkA : Hid ((∀ x ∈ lra, smM x.give) ∧ lra.length ≤ 1000) := Lib.hid (by have hk := lch_ok gs.out gsx.out hF; exact ⟨hk.2, by have := hk.1; have := gl20.out; omega⟩)
      have era := Lib.hid he
      clear hF he
      have hra := Lib.hid hr
      have ira := Lib.hid hi
      have qra : nra ≤ 1000 := (by rw [← hl]; exact gkA.out.2)
      clear hr hi hl
      have sx1 : wc.heap.size ≤ x1.heap.size := hb.size
      replace hW := Lib.hid (hW.out.below hb)
      replace um := Lib.hid (um.out.map (fun h => h.below hb))
      replace km := Lib.hid (km.out.below hb km.out.lt)
      replace gB := Lib.hid (gB.out.trans (hb.mono gB.out.size))
      clear hb
      obtain ⟨a0, a1, a2, a3, a4, a5, a6, a7, a8, a9, a10, a11⟩ := gCel.out _ gB.out
      go_wp2_with fail
      clear a0 a1 a2 a3 a4 a5 a6 a7 a8 a9 a10 a11
      refine (rlaunch_any A n c l hn10 gs.out N e mx.s.neg bX0 mx.s.ls.length bc0 mx.s.ex mx.w.neg bX1 mx.w.ls.length bc1 mx.w.ex mx.c.neg bX2 mx.c.ls.length bc2 mx.c.ex mx.a.neg bX3 mx.a.ls.length bc3 mx.a.ex mx gsx.out x1 (gL.out _ gB.out) (gXm.out _ gB.out)).mono ?_
      rintro en x2 ⟨lrb, vrb, Erb, rfl, hF, hO⟩
      obtain ⟨Arb, nrb, crb, orb, rfl, he, hr, hi, hl, hb⟩ := outE_row hO
      clear hO
      obtain ⟨hL, hE⟩ := lch_one gA.out hF
      have erb := Lib.hid (he.trans hL.symm)
      rw [← hL] at hl
      clear hF he hL
      subst hE
      first | have qEA : (Era == Era) = true := (by simp) | have qEA : (Erb == Erb) = true := (by simp)
      have hrb := Lib.hid hr
      have irb := Lib.hid hi
      have qrb : nrb ≤ 1000 := (by rw [← hl]; exact gkA.out.2)
      clear hr hi hl
      have sx2 : x1.heap.size ≤ x2.heap.size := hb.size
      replace hW := Lib.hid (hW.out.below hb)
      replace hra := Lib.hid (hra.out.below hb)
      replace um := Lib.hid (um.out.map (fun h => h.below hb))
      replace km := Lib.hid (km.out.below hb km.out.lt)
      replace gB := Lib.hid (gB.out.trans (hb.mono gB.out.size))
      clear hb
      go_wp2_with fail
      refine (double_any Ao n co l hn10 gs.out x2 (hW.out.ens eW.out) N).mono ?_
      rintro en x3 ⟨lrc, vrc, Erc, rfl, hF, hO⟩
      obtain ⟨Arc, nrc, crc, orc, rfl, he, hr, hi, hl, hb⟩ := outE_row hO
      clear hO
      have gC := Lib.hid hF
      have gkC : Hid ((∀ x ∈ lrc, smM x.give) ∧ lrc.length ≤ 1000) := Lib.hid (by have hk := dbl_ok gs.out hF; exact ⟨hk.2, by have := hk.1; have := gl20.out; omega⟩)
      have erc := Lib.hid he
      clear hF he
      have hrc := Lib.hid hr
      have irc := Lib.hid hi
      have qrc : nrc ≤ 1000 := (by rw [← hl]; exact gkC.out.2)
      clear hr hi hl
      have sx3 : x2.heap.size ≤ x3.heap.size := hb.size
      replace hW := Lib.hid (hW.out.below hb)
      replace hra := Lib.hid (hra.out.below hb)
      replace hrb := Lib.hid (hrb.out.below hb)
      replace um := Lib.hid (um.out.map (fun h => h.below hb))
      replace km := Lib.hid (km.out.below hb km.out.lt)
      replace gB := Lib.hid (gB.out.trans (hb.mono gB.out.size))
      clear hb
      go_wp2_with fail
      refine (rdouble_any A n c l hn10 gs.out x3 (gL.out _ gB.out) N).mono ?_
      rintro en x4 ⟨lrd, vrd, Erd, rfl, hF, hO⟩
      obtain ⟨Ard, nrd, crd, ord, rfl, he, hr, hi, hl, hb⟩ := outE_row hO
      clear hO
      obtain ⟨hL, hE⟩ := dbl_one gC.out hF
      have erd := Lib.hid (he.trans hL.symm)
      rw [← hL] at hl
      clear hF he hL
      subst hE
      first | have qEC : (Erc == Erc) = true := (by simp) | have qEC : (Erd == Erd) = true := (by simp)
      have hrd := Lib.hid hr
      have ird := Lib.hid hi
      have qrd : nrd ≤ 1000 := (by rw [← hl]; exact gkC.out.2)
      clear hr hi hl
      have sx4 : x3.heap.size ≤ x4.heap.size := hb.size
      replace hW := Lib.hid (hW.out.below hb)
      replace hra := Lib.hid (hra.out.below hb)
      replace hrb := Lib.hid (hrb.out.below hb)
      replace hrc := Lib.hid (hrc.out.below hb)
      replace um := Lib.hid (um.out.map (fun h => h.below hb))
      replace km := Lib.hid (km.out.below hb km.out.lt)
      replace gB := Lib.hid (gB.out.trans (hb.mono gB.out.size))
      clear hb
      go_wp2_with fail
      refine (land_any Ao n co l hn10 gs.out x4 (hW.out.ens eW.out) N).mono ?_
      rintro en x5 ⟨lrp, zrp, ox, vrp, vx, Erp, rfl, hF, rfl, hP⟩
      obtain ⟨Arp, nrp, crp, orp, rfl, he, hx, hr, hi, hl, hu, hj, hap, hb⟩ := pair_row hP
      clear hP
      have ux := Lib.hid hu
      have jx := Lib.hid hj
      have apx := Lib.hid hap
      clear hu hj hap
      have gP := Lib.hid hF
      have gxP := Lib.hid (cme_ok gs.out hF).2
      have gkP : Hid ((∀ x ∈ lrp, smM x.give) ∧ lrp.length ≤ 1000) := Lib.hid (by have hk := (cme_ok gs.out hF).1; exact ⟨hk.2, by have := hk.1; have := gl20.out; omega⟩)
      have erp := Lib.hid he
      have fx := Lib.hid hx
      clear hF he hx
      have hrp := Lib.hid hr
      have irp := Lib.hid hi
      have qrp : nrp ≤ 1000 := (by rw [← hl]; exact gkP.out.2)
      clear hr hi hl
      unfold aggE
      have sx5 : x4.heap.size ≤ x5.heap.size := hb.size
      replace hW := Lib.hid (hW.out.below hb)
      replace hra := Lib.hid (hra.out.below hb)
      replace hrb := Lib.hid (hrb.out.below hb)
      replace hrc := Lib.hid (hrc.out.below hb)
      replace hrd := Lib.hid (hrd.out.below hb)
      replace um := Lib.hid (um.out.map (fun h => h.below hb))
      replace km := Lib.hid (km.out.below hb km.out.lt)
      replace gB := Lib.hid (gB.out.trans (hb.mono gB.out.size))
      clear hb
      obtain ⟨tx, ht⟩ : ∃ t, t = x5.heap.size := ⟨_, rfl⟩
      obtain ⟨y5, hy5⟩ : ∃ W, W = x5.alloc (.cells #[.int .i64 ox.x.nu, .int .i64 ox.x.ep, .int .i64 ox.x.cp, .bool ox.x.give.s.neg, .slice ox.X0 ox.x.give.s.ls.length ox.c0, .int .i64 ox.x.give.s.ex, .bool ox.x.give.w.neg, .slice ox.X1 ox.x.give.w.ls.length ox.c1, .int .i64 ox.x.give.w.ex, .bool ox.x.give.c.neg, .slice ox.X2 ox.x.give.c.ls.length ox.c2, .int .i64 ox.x.give.c.ex, .bool ox.x.give.a.neg, .slice ox.X3 ox.x.give.a.ls.length ox.c3, .int .i64 ox.x.give.a.ex] 40) := ⟨_, rfl⟩
      have hb : Below x5.heap.size x5 y5 := by rw [hy5]; exact (Below.refl _ _).alloc (Nat.le_refl _) _
      have kk : Blk y5 x5.heap.size 40 #[.int .i64 ox.x.nu, .int .i64 ox.x.ep, .int .i64 ox.x.cp, .bool ox.x.give.s.neg, .slice ox.X0 ox.x.give.s.ls.length ox.c0, .int .i64 ox.x.give.s.ex, .bool ox.x.give.w.neg, .slice ox.X1 ox.x.give.w.ls.length ox.c1, .int .i64 ox.x.give.w.ex, .bool ox.x.give.c.neg, .slice ox.X2 ox.x.give.c.ls.length ox.c2, .int .i64 ox.x.give.c.ex, .bool ox.x.give.a.neg, .slice ox.X3 ox.x.give.a.ls.length ox.c3, .int .i64 ox.x.give.a.ex] := by rw [hy5]; exact Blk.new _ _ _
      have nx : Hid (tx = x5.heap.size ∧ tx < y5.heap.size) := Lib.hid ⟨ht, by rw [ht]; exact kk.lt⟩
      rw [← ht] at kk
      have kx := Lib.hid kk
      clear kk
      have sy5 : x5.heap.size ≤ y5.heap.size := hb.size
      replace hW := Lib.hid (hW.out.below hb)
      replace hra := Lib.hid (hra.out.below hb)
      replace hrb := Lib.hid (hrb.out.below hb)
      replace hrc := Lib.hid (hrc.out.below hb)
      replace hrd := Lib.hid (hrd.out.below hb)
      replace hrp := Lib.hid (hrp.out.below hb)
      replace um := Lib.hid (um.out.map (fun h => h.below hb))
      replace ux := Lib.hid (ux.out.map (fun h => h.below hb))
      replace km := Lib.hid (km.out.below hb km.out.lt)
      replace gB := Lib.hid (gB.out.trans (hb.mono gB.out.size))
      clear hb
      go_wp2_with fail
      rw [← hy5]
      clear hy5
      rw [← ht]
      clear ht
      refine (rland_any A n c l hn10 hnc gs.out y5 (gL.out _ gB.out) N).mono ?_
      rintro en x6 ⟨lrq, zrq, oy, vrq, vx, Erq, rfl, hF, rfl, hP⟩
      obtain ⟨Arq, nrq, crq, orq, rfl, he, hx, hr, hi, hl, hu, hj, hap, hb⟩ := pair_row hP
      clear hP
      have uy := Lib.hid hu
      have jy := Lib.hid hj
      have apy := Lib.hid hap
      clear hu hj hap
      obtain ⟨hL, hX, hE⟩ := cme_one gP.out hF
      have erq := Lib.hid (he.trans hL.symm)
      have fy := Lib.hid (hx.trans hX.symm)
      rw [← hL] at hl
      clear hF he hx hL hX
      subst hE
      first | have qEP : (Erp == Erp) = true := (by simp) | have qEP : (Erq == Erq) = true := (by simp)
      have hrq := Lib.hid hr
      have irq := Lib.hid hi
      have qrq : nrq ≤ 1000 := (by rw [← hl]; exact gkP.out.2)
      clear hr hi hl
      unfold aggE
      have sx6 : y5.heap.size ≤ x6.heap.size := hb.size
      replace hW := Lib.hid (hW.out.below hb)
      replace hra := Lib.hid (hra.out.below hb)
      replace hrb := Lib.hid (hrb.out.below hb)
      replace hrc := Lib.hid (hrc.out.below hb)
      replace hrd := Lib.hid (hrd.out.below hb)
      replace hrp := Lib.hid (hrp.out.below hb)
      replace um := Lib.hid (um.out.map (fun h => h.below hb))
      replace ux := Lib.hid (ux.out.map (fun h => h.below hb))
      replace km := Lib.hid (km.out.below hb km.out.lt)
      replace kx := Lib.hid (kx.out.below hb kx.out.lt)
      replace gB := Lib.hid (gB.out.trans (hb.mono gB.out.size))
      clear hb
      obtain ⟨ty, ht⟩ : ∃ t, t = x6.heap.size := ⟨_, rfl⟩
      obtain ⟨y6, hy6⟩ : ∃ W, W = x6.alloc (.cells #[.int .i64 oy.x.nu, .int .i64 oy.x.ep, .int .i64 oy.x.cp, .bool oy.x.give.s.neg, .slice oy.X0 oy.x.give.s.ls.length oy.c0, .int .i64 oy.x.give.s.ex, .bool oy.x.give.w.neg, .slice oy.X1 oy.x.give.w.ls.length oy.c1, .int .i64 oy.x.give.w.ex, .bool oy.x.give.c.neg, .slice oy.X2 oy.x.give.c.ls.length oy.c2, .int .i64 oy.x.give.c.ex, .bool oy.x.give.a.neg, .slice oy.X3 oy.x.give.a.ls.length oy.c3, .int .i64 oy.x.give.a.ex] 40) := ⟨_, rfl⟩
      have hb : Below x6.heap.size x6 y6 := by rw [hy6]; exact (Below.refl _ _).alloc (Nat.le_refl _) _
      have kk : Blk y6 x6.heap.size 40 #[.int .i64 oy.x.nu, .int .i64 oy.x.ep, .int .i64 oy.x.cp, .bool oy.x.give.s.neg, .slice oy.X0 oy.x.give.s.ls.length oy.c0, .int .i64 oy.x.give.s.ex, .bool oy.x.give.w.neg, .slice oy.X1 oy.x.give.w.ls.length oy.c1, .int .i64 oy.x.give.w.ex, .bool oy.x.give.c.neg, .slice oy.X2 oy.x.give.c.ls.length oy.c2, .int .i64 oy.x.give.c.ex, .bool oy.x.give.a.neg, .slice oy.X3 oy.x.give.a.ls.length oy.c3, .int .i64 oy.x.give.a.ex] := by rw [hy6]; exact Blk.new _ _ _
      have ny : Hid (ty = x6.heap.size ∧ ty < y6.heap.size) := Lib.hid ⟨ht, by rw [ht]; exact kk.lt⟩
      rw [← ht] at kk
      have ky := Lib.hid kk
      clear kk
      have sy6 : x6.heap.size ≤ y6.heap.size := hb.size
      replace hW := Lib.hid (hW.out.below hb)
      replace hra := Lib.hid (hra.out.below hb)
      replace hrb := Lib.hid (hrb.out.below hb)
      replace hrc := Lib.hid (hrc.out.below hb)
      replace hrd := Lib.hid (hrd.out.below hb)
      replace hrp := Lib.hid (hrp.out.below hb)
      replace hrq := Lib.hid (hrq.out.below hb)
      replace um := Lib.hid (um.out.map (fun h => h.below hb))
      replace ux := Lib.hid (ux.out.map (fun h => h.below hb))
      replace uy := Lib.hid (uy.out.map (fun h => h.below hb))
      replace km := Lib.hid (km.out.below hb km.out.lt)
      replace kx := Lib.hid (kx.out.below hb kx.out.lt)
      replace gB := Lib.hid (gB.out.trans (hb.mono gB.out.size))
      clear hb
      go_wp2_with fail
      rw [← hy6]
      clear hy6
      rw [← ht]
      clear ht
      refine (lose_any Ao n co l hn10 gs.out y6 (hW.out.ens eW.out) N).mono ?_
      rintro en x7 ⟨lrs, zrs, ov, vrs, vx, Ers, rfl, hF, rfl, hP⟩
      obtain ⟨Ars, nrs, crs, ors, rfl, he, hx, hr, hi, hl, hu, hj, hap, hb⟩ := pair_row hP
      clear hP
      have uv := Lib.hid hu
      have jv := Lib.hid hj
      have apv := Lib.hid hap
      clear hu hj hap
      have gS := Lib.hid hF
      have gxS := Lib.hid (cme_ok gs.out hF).2
      have gkS : Hid ((∀ x ∈ lrs, smM x.give) ∧ lrs.length ≤ 1000) := Lib.hid (by have hk := (cme_ok gs.out hF).1; exact ⟨hk.2, by have := hk.1; have := gl20.out; omega⟩)
      have ers := Lib.hid he
      have fv := Lib.hid hx
      clear hF he hx
      have hrs := Lib.hid hr
      have irs := Lib.hid hi
      have qrs : nrs ≤ 1000 := (by rw [← hl]; exact gkS.out.2)
      clear hr hi hl
      unfold aggE
      have sx7 : y6.heap.size ≤ x7.heap.size := hb.size
      replace hW := Lib.hid (hW.out.below hb)
      replace hra := Lib.hid (hra.out.below hb)
      replace hrb := Lib.hid (hrb.out.below hb)
      replace hrc := Lib.hid (hrc.out.below hb)
      replace hrd := Lib.hid (hrd.out.below hb)
      replace hrp := Lib.hid (hrp.out.below hb)
      replace hrq := Lib.hid (hrq.out.below hb)
      replace um := Lib.hid (um.out.map (fun h => h.below hb))
      replace ux := Lib.hid (ux.out.map (fun h => h.below hb))
      replace uy := Lib.hid (uy.out.map (fun h => h.below hb))
      replace km := Lib.hid (km.out.below hb km.out.lt)
      replace kx := Lib.hid (kx.out.below hb kx.out.lt)
      replace ky := Lib.hid (ky.out.below hb ky.out.lt)
      replace gB := Lib.hid (gB.out.trans (hb.mono gB.out.size))
      clear hb
      obtain ⟨tv, ht⟩ : ∃ t, t = x7.heap.size := ⟨_, rfl⟩
      obtain ⟨y7, hy7⟩ : ∃ W, W = x7.alloc (.cells #[.int .i64 ov.x.nu, .int .i64 ov.x.ep, .int .i64 ov.x.cp, .bool ov.x.give.s.neg, .slice ov.X0 ov.x.give.s.ls.length ov.c0, .int .i64 ov.x.give.s.ex, .bool ov.x.give.w.neg, .slice ov.X1 ov.x.give.w.ls.length ov.c1, .int .i64 ov.x.give.w.ex, .bool ov.x.give.c.neg, .slice ov.X2 ov.x.give.c.ls.length ov.c2, .int .i64 ov.x.give.c.ex, .bool ov.x.give.a.neg, .slice ov.X3 ov.x.give.a.ls.length ov.c3, .int .i64 ov.x.give.a.ex] 40) := ⟨_, rfl⟩
      have hb : Below x7.heap.size x7 y7 := by rw [hy7]; exact (Below.refl _ _).alloc (Nat.le_refl _) _
      have kk : Blk y7 x7.heap.size 40 #[.int .i64 ov.x.nu, .int .i64 ov.x.ep, .int .i64 ov.x.cp, .bool ov.x.give.s.neg, .slice ov.X0 ov.x.give.s.ls.length ov.c0, .int .i64 ov.x.give.s.ex, .bool ov.x.give.w.neg, .slice ov.X1 ov.x.give.w.ls.length ov.c1, .int .i64 ov.x.give.w.ex, .bool ov.x.give.c.neg, .slice ov.X2 ov.x.give.c.ls.length ov.c2, .int .i64 ov.x.give.c.ex, .bool ov.x.give.a.neg, .slice ov.X3 ov.x.give.a.ls.length ov.c3, .int .i64 ov.x.give.a.ex] := by rw [hy7]; exact Blk.new _ _ _
      have nv : Hid (tv = x7.heap.size ∧ tv < y7.heap.size) := Lib.hid ⟨ht, by rw [ht]; exact kk.lt⟩
      rw [← ht] at kk
      have kv := Lib.hid kk
      clear kk
      have sy7 : x7.heap.size ≤ y7.heap.size := hb.size
      replace hW := Lib.hid (hW.out.below hb)
      replace hra := Lib.hid (hra.out.below hb)
      replace hrb := Lib.hid (hrb.out.below hb)
      replace hrc := Lib.hid (hrc.out.below hb)
      replace hrd := Lib.hid (hrd.out.below hb)
      replace hrp := Lib.hid (hrp.out.below hb)
      replace hrq := Lib.hid (hrq.out.below hb)
      replace hrs := Lib.hid (hrs.out.below hb)
      replace um := Lib.hid (um.out.map (fun h => h.below hb))
      replace ux := Lib.hid (ux.out.map (fun h => h.below hb))
      replace uy := Lib.hid (uy.out.map (fun h => h.below hb))
      replace uv := Lib.hid (uv.out.map (fun h => h.below hb))
      replace km := Lib.hid (km.out.below hb km.out.lt)
      replace kx := Lib.hid (kx.out.below hb kx.out.lt)
      replace ky := Lib.hid (ky.out.below hb ky.out.lt)
      replace gB := Lib.hid (gB.out.trans (hb.mono gB.out.size))
      clear hb
      go_wp2_with fail
      rw [← hy7]
      clear hy7
      rw [← ht]
      clear ht
      refine (rlose_any A n c l hn10 hnc gs.out y7 (gL.out _ gB.out) N).mono ?_
      rintro en x8 ⟨lrt, zrt, oz, vrt, vx, Ert, rfl, hF, rfl, hP⟩
      obtain ⟨Art, nrt, crt, ort, rfl, he, hx, hr, hi, hl, hu, hj, hap, hb⟩ := pair_row hP
      clear hP
      have uz := Lib.hid hu
      have jz := Lib.hid hj
      have apz := Lib.hid hap
      clear hu hj hap
      obtain ⟨hL, hX, hE⟩ := cme_one gS.out hF
      have ert := Lib.hid (he.trans hL.symm)
      have fz := Lib.hid (hx.trans hX.symm)
      rw [← hL] at hl
      clear hF he hx hL hX
      subst hE
      first | have qES : (Ers == Ers) = true := (by simp) | have qES : (Ert == Ert) = true := (by simp)
      have hrt := Lib.hid hr
      have irt := Lib.hid hi
      have qrt : nrt ≤ 1000 := (by rw [← hl]; exact gkS.out.2)
      clear hr hi hl
      unfold aggE
      have sx8 : y7.heap.size ≤ x8.heap.size := hb.size
      replace hW := Lib.hid (hW.out.below hb)
      replace hra := Lib.hid (hra.out.below hb)
      replace hrb := Lib.hid (hrb.out.below hb)
      replace hrc := Lib.hid (hrc.out.below hb)
      replace hrd := Lib.hid (hrd.out.below hb)
      replace hrp := Lib.hid (hrp.out.below hb)
      replace hrq := Lib.hid (hrq.out.below hb)
      replace hrs := Lib.hid (hrs.out.below hb)
      replace um := Lib.hid (um.out.map (fun h => h.below hb))
      replace ux := Lib.hid (ux.out.map (fun h => h.below hb))
      replace uy := Lib.hid (uy.out.map (fun h => h.below hb))
      replace uv := Lib.hid (uv.out.map (fun h => h.below hb))
      replace km := Lib.hid (km.out.below hb km.out.lt)
      replace kx := Lib.hid (kx.out.below hb kx.out.lt)
      replace ky := Lib.hid (ky.out.below hb ky.out.lt)
      replace kv := Lib.hid (kv.out.below hb kv.out.lt)
      replace gB := Lib.hid (gB.out.trans (hb.mono gB.out.size))
      clear hb
      obtain ⟨tz, ht⟩ : ∃ t, t = x8.heap.size := ⟨_, rfl⟩
      obtain ⟨y8, hy8⟩ : ∃ W, W = x8.alloc (.cells #[.int .i64 oz.x.nu, .int .i64 oz.x.ep, .int .i64 oz.x.cp, .bool oz.x.give.s.neg, .slice oz.X0 oz.x.give.s.ls.length oz.c0, .int .i64 oz.x.give.s.ex, .bool oz.x.give.w.neg, .slice oz.X1 oz.x.give.w.ls.length oz.c1, .int .i64 oz.x.give.w.ex, .bool oz.x.give.c.neg, .slice oz.X2 oz.x.give.c.ls.length oz.c2, .int .i64 oz.x.give.c.ex, .bool oz.x.give.a.neg, .slice oz.X3 oz.x.give.a.ls.length oz.c3, .int .i64 oz.x.give.a.ex] 40) := ⟨_, rfl⟩
      have hb : Below x8.heap.size x8 y8 := by rw [hy8]; exact (Below.refl _ _).alloc (Nat.le_refl _) _
      have kk : Blk y8 x8.heap.size 40 #[.int .i64 oz.x.nu, .int .i64 oz.x.ep, .int .i64 oz.x.cp, .bool oz.x.give.s.neg, .slice oz.X0 oz.x.give.s.ls.length oz.c0, .int .i64 oz.x.give.s.ex, .bool oz.x.give.w.neg, .slice oz.X1 oz.x.give.w.ls.length oz.c1, .int .i64 oz.x.give.w.ex, .bool oz.x.give.c.neg, .slice oz.X2 oz.x.give.c.ls.length oz.c2, .int .i64 oz.x.give.c.ex, .bool oz.x.give.a.neg, .slice oz.X3 oz.x.give.a.ls.length oz.c3, .int .i64 oz.x.give.a.ex] := by rw [hy8]; exact Blk.new _ _ _
      have nz : Hid (tz = x8.heap.size ∧ tz < y8.heap.size) := Lib.hid ⟨ht, by rw [ht]; exact kk.lt⟩
      rw [← ht] at kk
      have kz := Lib.hid kk
      clear kk
      have sy8 : x8.heap.size ≤ y8.heap.size := hb.size
      replace hW := Lib.hid (hW.out.below hb)
      replace hra := Lib.hid (hra.out.below hb)
      replace hrb := Lib.hid (hrb.out.below hb)
      replace hrc := Lib.hid (hrc.out.below hb)
      replace hrd := Lib.hid (hrd.out.below hb)
      replace hrp := Lib.hid (hrp.out.below hb)
      replace hrq := Lib.hid (hrq.out.below hb)
      replace hrs := Lib.hid (hrs.out.below hb)
      replace hrt := Lib.hid (hrt.out.below hb)
      replace um := Lib.hid (um.out.map (fun h => h.below hb))
      replace ux := Lib.hid (ux.out.map (fun h => h.below hb))
      replace uy := Lib.hid (uy.out.map (fun h => h.below hb))
      replace uv := Lib.hid (uv.out.map (fun h => h.below hb))
      replace uz := Lib.hid (uz.out.map (fun h => h.below hb))
      replace km := Lib.hid (km.out.below hb km.out.lt)
      replace kx := Lib.hid (kx.out.below hb kx.out.lt)
      replace ky := Lib.hid (ky.out.below hb ky.out.lt)
      replace kv := Lib.hid (kv.out.below hb kv.out.lt)
      replace gB := Lib.hid (gB.out.trans (hb.mono gB.out.size))
      clear hb
      go_upto_region 12 with fail
      rw [← hy8]
      clear hy8
      rw [← ht]
      clear ht
      have key := tells_two A n c l N e bX0 bc0 bX1 bc1 bX2 bc2 bX3 bc3 mx w w2 wc x1 x2 x3 x4 x5 y5 x6 y6 x7 y7 x8 y8 Ao co oW g om Ara nra cra ora Arb nrb crb orb Arc nrc crc orc Ard nrd crd ord Arp nrp crp orp Arq nrq crq orq Ars nrs crs ors Art nrt crt ort lra Era lrc Erc lrp Erp lrs Ers zrp zrs ox tx oy ty ov tv oz tz hnc hnx hn10 gln gs gsx gl20 gL gXm gCel hB2 gB sB eW em gkW sx1 sx2 sx3 sx4 sx5 sy5 sx6 sy6 sx7 sy7 sx8 sy8 gkA gkC gkP gkS gxP gxS qEA qEC qEP qES hW iW hra ira era qra hrb irb erb qrb hrc irc erc qrc hrd ird erd qrd hrp irp erp qrp hrq irq erq qrq hrs irs ers qrs hrt irt ert qrt um jm ux jx apx fx uy jy apy fy uv jv apv fv uz jz apz fz km nm kx nx ky ny kv nv kz nz _ rfl
      dsimp only [fstC, sndC] at key
      refine key _ _ _ _ _ _ _ _ _ _ _ _ _ _ _ _ _ _ _ _ _ _ _ _ _ _ _ _ _ _ _ _ _ _ _ _ _ _ _ _ _ _ _ _ _ _ _ _ _ _ _ _ _ _ _ _ _ _ _ _ _ _ _ _ _ _ _ _ _ _ _ _ _ _ _ _ _ _ _ _ _ _ _ _ _ _ _ _ _ _ _ _ _ _ _ _ _ _ _ _ _ _ _ _ _ _ _ _ _ _ _ _ _ _ _ _ _ _ _ _ _ _ _ _ _ _ _ _ _ _ _ _ _ _ _ _ _ _ _ _ _ _ _ _ _ _ _ _ _ _ _ _ _ _ _ _ _ _ _ _ _ rfl ?_
      assumption
end Go.Proofs.Ytdmjdpaehnhdoaa
