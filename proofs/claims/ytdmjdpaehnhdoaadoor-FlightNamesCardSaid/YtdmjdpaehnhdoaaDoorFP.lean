/- Flight's Door: mail.Check and flight.Of at FlightNames' mails -/
import Derived.Test.YtdmjdpaehnhdoaaDoorFN
import Derived.Test.YtdmjdpaehnhdoaaDoorFB
import Derived.Test.YtdmjdpaehnhdoaaDoorLKM
namespace Go.Proofs.YtdmjdpaehnhdoaaDoor
open Go.ChangeShapes Go.WideShapes Go.ChangeAt Go.RowKit
set_option linter.unusedSimpArgs false
set_option linter.unusedVariables false
open Go.Shelf
abbrev qp0 : Array Value := #[.int .u8 0, .int .i64 0, .int .i64 0, .int .i64 0, .int .i64 0, .int .i64 0, .bool false, .slice none 0 0, .int .i64 0, .bool false, .slice none 0 0, .int .i64 0, .bool false, .slice none 0 0, .int .i64 0, .bool false, .slice none 0 0, .int .i64 0, .bool false, .slice none 0 0, .bool false, .int .i64 0, .int .i64 0, .slice none 0 0]
abbrev qp1 (g2 : Bool) (X2 : Option Addr) (n2 c2 : Nat) (e2 : Int) (g3 : Bool) (X3 : Option Addr) (n3 c3 : Nat) (e3 : Int) : Array Value := #[.int .u8 2, .int .i64 0, .int .i64 1, .int .i64 0, .int .i64 0, .int .i64 0, .bool false, .slice none 0 0, .int .i64 0, .bool false, .slice none 0 0, .int .i64 0, .bool g2, .slice X2 n2 c2, .int .i64 e2, .bool g3, .slice X3 n3 c3, .int .i64 e3, .bool false, .slice none 0 0, .bool false, .int .i64 0, .int .i64 0, .slice none 0 0]
abbrev qp2 (g0 : Bool) (X0 : Option Addr) (n0 c0 : Nat) (e0 : Int) (g1 : Bool) (X1 : Option Addr) (n1 c1 : Nat) (e1 : Int) (g2 : Bool) (X2 : Option Addr) (n2 c2 : Nat) (e2 : Int) (g3 : Bool) (X3 : Option Addr) (n3 c3 : Nat) (e3 : Int) : Array Value := #[.int .u8 1, .int .i64 0, .int .i64 1, .int .i64 0, .int .i64 0, .int .i64 0, .bool g0, .slice X0 n0 c0, .int .i64 e0, .bool g1, .slice X1 n1 c1, .int .i64 e1, .bool g2, .slice X2 n2 c2, .int .i64 e2, .bool g3, .slice X3 n3 c3, .int .i64 e3, .bool false, .slice none 0 0, .bool false, .int .i64 0, .int .i64 0, .slice none 0 0]
abbrev qp3 (o : MB) : Array Value := #[.bool o.m.s.neg, .slice o.X0 o.m.s.ls.length o.c0, .int .i64 o.m.s.ex, .bool o.m.w.neg, .slice o.X1 o.m.w.ls.length o.c1, .int .i64 o.m.w.ex, .bool o.m.c.neg, .slice o.X2 o.m.c.ls.length o.c2, .int .i64 o.m.c.ex, .bool o.m.a.neg, .slice o.X3 o.m.a.ls.length o.c3, .int .i64 o.m.a.ex]
abbrev qp4 : Array Value := #[.bool false, .slice none 0 0, .int .i64 0, .bool false, .slice none 0 0, .int .i64 0, .bool false, .slice none 0 0, .int .i64 0, .bool false, .slice none 0 0, .int .i64 0]
set_option maxRecDepth 100000
set_option maxHeartbeats 16000000 in
theorem mck1 (g0 : Bool) (X0 : Option Addr) (n0 c0 : Nat) (e0 : Int) (g1 : Bool) (X1 : Option Addr) (n1 c1 : Nat) (e1 : Int) (g2 : Bool) (X2 : Option Addr) (n2 c2 : Nat) (e2 : Int) (g3 : Bool) (X3 : Option Addr) (n3 c3 : Nat) (e3 : Int) (m : Ms) (hsm : smM m) (hmay : mayM m = true) (hc : m.c = zdy) (ha : m.a = zdy) (w : World) (ra : RdM w w.heap.size g0 X0 n0 c0 e0 g1 X1 n1 c1 e1 g2 X2 n2 c2 e2 g3 X3 n3 c3 e3 m) : Calls Tryd.prog 35 #[.agg #[.int .u8 1, .int .i64 0, .int .i64 1, .int .i64 0, .int .i64 0, .int .i64 0, .bool g0, .slice X0 n0 c0, .int .i64 e0, .bool g1, .slice X1 n1 c1, .int .i64 e1, .bool g2, .slice X2 n2 c2, .int .i64 e2, .bool g3, .slice X3 n3 c3, .int .i64 e3, .bool false, .slice none 0 0, .bool false, .int .i64 0, .int .i64 0, .slice none 0 0]] w fun en w' => en = .returned (.int .i64 0) ∧ Below w.heap.size w w' := by
  have rz : RdM w w.heap.size g0 X0 n0 c0 e0 g1 X1 n1 c1 e1 false none 0 0 0 false none 0 0 0 m := ⟨ra.1, ra.2.1, by rw [hc]; exact rdD_zero _ _, by rw [ha]; exact rdD_zero _ _⟩
  have Hm := fun w' (h : Below w.heap.size w w') => msame_any g0 X0 n0 c0 e0 g1 X1 n1 c1 e1 g2 X2 n2 c2 e2 g3 X3 n3 c3 e3 g0 X0 n0 c0 e0 g1 X1 n1 c1 e1 false none 0 0 0 false none 0 0 0 m m hsm hsm w' (ra.below h h.size) (rz.below h h.size) true (decide_eq_true rfl)
  have Hd := fun w' (h : Below w.heap.size w w') => (descsame_any none none 0 0 0 0 _ _ [] [] (by omega) w' (Tms.none_ (B := w'.heap.size)) (Tms.none_ (B := w'.heap.size)) true rfl).mono (fun en w'' hh => (⟨hh.1, by obtain ⟨m, e⟩ := hh.2; rw [e]; exact below_drewN (Below.refl _ _) m⟩ : en = .returned (.bool true) ∧ Below w'.heap.size w' w''))
  have Hl := fun w' (h : Below w.heap.size w w') => (lequal_any none none 0 0 0 0 _ _ [] [] rfl rfl (by omega) (by omega) w' (Reads.none_ (B := w'.heap.size)) (Reads.none_ (B := w'.heap.size))).mono (fun en w'' hh => (⟨hh.1, by obtain ⟨m, e⟩ := hh.2; rw [e]; exact below_drewN (Below.refl _ _) m⟩ : en = .returned (.bool true) ∧ Below w'.heap.size w' w''))
  have Cm := fun w' (h : Below w.heap.size w w') => mcheck_any g0 X0 n0 c0 e0 g1 X1 n1 c1 e1 g2 X2 n2 c2 e2 g3 X3 n3 c3 e3 m w' (ra.below h h.size) true hmay
  have Cd := fun w' (h : Below w.heap.size w w') => dscheck_any none 0 0 [] (by omega) w' Tms.none_ 0 rfl
  have Ce := fun w' (_ : Below w.heap.size w w') => edge_any false 0 0 w' true rfl
  have Cl := fun w' (h : Below w.heap.size w w') => (least_any none 0 0 w'.heap.size [] rfl (by omega) w' Reads.none_).mono (fun en w'' hh => (by
    obtain ⟨R, h1, h2, m, e⟩ := hh
    have hR : R = true := h2.2 ⟨fun i h => by simp at h, by decide⟩
    exact ⟨by rw [h1, hR], by rw [e]; exact below_drewN (Below.refl _ _) m⟩ : en = .returned (.bool true) ∧ Below w'.heap.size w' w''))
  have Cu := fun w' (_ : Below w.heap.size w w') => used1 (afr := 0) (att := 1) (aep := 0) (anu := 0) (aab := 0) (ag0 := g0) (aX0 := X0) (an0 := n0) (ac0 := c0) (ae0 := e0) (ag1 := g1) (aX1 := X1) (an1 := n1) (ac1 := c1) (ae1 := e1) (ag2 := g2) (aX2 := X2) (an2 := n2) (ac2 := c2) (ae2 := e2) (ag3 := g3) (aX3 := X3) (an3 := n3) (ac3 := c3) (ae3 := e3) (awa := false) (aD := none) (adn := 0) (adc := 0) (aeh := false) (ax1 := 0) (ax2 := 0) (aL := none) (aln := 0) (alc := 0) w'
  have Cs := fun w' (h : Below w.heap.size w w') => swl (akd := 1) (afr := 0) (att := 1) (aep := 0) (anu := 0) (aab := 0) (awa := false) (adc := 0) (adn := 0) (aD := none) (aeh := false) (ax1 := 0) (ax2 := 0) (aL := none) (aln := 0) (alc := 0) (bkd := 1) (bfr := 0) (btt := 1) (bep := 0) (bnu := 0) (bab := 0) (bwa := false) (bdc := 0) (bdn := 0) (bD := none) (beh := false) (bx1 := 0) (bx2 := 0) (bL := none) (bln := 0) (blc := 0) w' rfl rfl rfl rfl rfl rfl (fun w2 h2 => Hm w2 (h.trans (h2.mono h.size))) rfl (fun w2 h2 => Hd w2 (h.trans (h2.mono h.size))) rfl rfl rfl true (fun w2 h2 => Hl w2 (h.trans (h2.mono h.size)))
  exact ckt4 w (by decide) (by decide) ⟨by decide, by decide⟩ (by decide) (by decide) (by decide) (by decide) (by decide) (by decide) Cm Cd Ce Cl _ true 0 rfl Cu Cs
set_option maxHeartbeats 16000000 in
theorem mck2 (g2 : Bool) (X2 : Option Addr) (n2 c2 : Nat) (e2 : Int) (g3 : Bool) (X3 : Option Addr) (n3 c3 : Nat) (e3 : Int) (m : Ms) (hsm : smM m) (hmay : mayM m = true) (w : World) (ra : RdM w w.heap.size false none 0 0 0 false none 0 0 0 g2 X2 n2 c2 e2 g3 X3 n3 c3 e3 m) : Calls Tryd.prog 35 #[.agg #[.int .u8 2, .int .i64 0, .int .i64 1, .int .i64 0, .int .i64 0, .int .i64 0, .bool false, .slice none 0 0, .int .i64 0, .bool false, .slice none 0 0, .int .i64 0, .bool g2, .slice X2 n2 c2, .int .i64 e2, .bool g3, .slice X3 n3 c3, .int .i64 e3, .bool false, .slice none 0 0, .bool false, .int .i64 0, .int .i64 0, .slice none 0 0]] w fun en w' => en = .returned (.int .i64 0) ∧ Below w.heap.size w w' := by
  have rz := ra
  have Hm := fun w' (h : Below w.heap.size w w') => msame_any false none 0 0 0 false none 0 0 0 g2 X2 n2 c2 e2 g3 X3 n3 c3 e3 false none 0 0 0 false none 0 0 0 g2 X2 n2 c2 e2 g3 X3 n3 c3 e3 m m hsm hsm w' (ra.below h h.size) (rz.below h h.size) true (decide_eq_true rfl)
  have Hd := fun w' (h : Below w.heap.size w w') => (descsame_any none none 0 0 0 0 _ _ [] [] (by omega) w' (Tms.none_ (B := w'.heap.size)) (Tms.none_ (B := w'.heap.size)) true rfl).mono (fun en w'' hh => (⟨hh.1, by obtain ⟨m, e⟩ := hh.2; rw [e]; exact below_drewN (Below.refl _ _) m⟩ : en = .returned (.bool true) ∧ Below w'.heap.size w' w''))
  have Hl := fun w' (h : Below w.heap.size w w') => (lequal_any none none 0 0 0 0 _ _ [] [] rfl rfl (by omega) (by omega) w' (Reads.none_ (B := w'.heap.size)) (Reads.none_ (B := w'.heap.size))).mono (fun en w'' hh => (⟨hh.1, by obtain ⟨m, e⟩ := hh.2; rw [e]; exact below_drewN (Below.refl _ _) m⟩ : en = .returned (.bool true) ∧ Below w'.heap.size w' w''))
  have Cm := fun w' (h : Below w.heap.size w w') => mcheck_any false none 0 0 0 false none 0 0 0 g2 X2 n2 c2 e2 g3 X3 n3 c3 e3 m w' (ra.below h h.size) true hmay
  have Cd := fun w' (h : Below w.heap.size w w') => dscheck_any none 0 0 [] (by omega) w' Tms.none_ 0 rfl
  have Ce := fun w' (_ : Below w.heap.size w w') => edge_any false 0 0 w' true rfl
  have Cl := fun w' (h : Below w.heap.size w w') => (least_any none 0 0 w'.heap.size [] rfl (by omega) w' Reads.none_).mono (fun en w'' hh => (by
    obtain ⟨R, h1, h2, m, e⟩ := hh
    have hR : R = true := h2.2 ⟨fun i h => by simp at h, by decide⟩
    exact ⟨by rw [h1, hR], by rw [e]; exact below_drewN (Below.refl _ _) m⟩ : en = .returned (.bool true) ∧ Below w'.heap.size w' w''))
  have Cu := fun w' (_ : Below w.heap.size w w') => used2 (afr := 0) (att := 1) (aep := 0) (anu := 0) (aab := 0) (ag0 := false) (aX0 := none) (an0 := 0) (ac0 := 0) (ae0 := 0) (ag1 := false) (aX1 := none) (an1 := 0) (ac1 := 0) (ae1 := 0) (ag2 := g2) (aX2 := X2) (an2 := n2) (ac2 := c2) (ae2 := e2) (ag3 := g3) (aX3 := X3) (an3 := n3) (ac3 := c3) (ae3 := e3) (awa := false) (aD := none) (adn := 0) (adc := 0) (aeh := false) (ax1 := 0) (ax2 := 0) (aL := none) (aln := 0) (alc := 0) w'
  have Cs := fun w' (h : Below w.heap.size w w') => swl (akd := 2) (afr := 0) (att := 1) (aep := 0) (anu := 0) (aab := 0) (awa := false) (adc := 0) (adn := 0) (aD := none) (aeh := false) (ax1 := 0) (ax2 := 0) (aL := none) (aln := 0) (alc := 0) (bkd := 2) (bfr := 0) (btt := 1) (bep := 0) (bnu := 0) (bab := 0) (bwa := false) (bdc := 0) (bdn := 0) (bD := none) (beh := false) (bx1 := 0) (bx2 := 0) (bL := none) (bln := 0) (blc := 0) w' rfl rfl rfl rfl rfl rfl (fun w2 h2 => Hm w2 (h.trans (h2.mono h.size))) rfl (fun w2 h2 => Hd w2 (h.trans (h2.mono h.size))) rfl rfl rfl true (fun w2 h2 => Hl w2 (h.trans (h2.mono h.size)))
  exact ckt4 w (by decide) (by decide) ⟨by decide, by decide⟩ (by decide) (by decide) (by decide) (by decide) (by decide) (by decide) Cm Cd Ce Cl _ true 0 rfl Cu Cs
theorem mck0 (w : World) : Calls Tryd.prog 35 #[.agg #[.int .u8 0, .int .i64 0, .int .i64 0, .int .i64 0, .int .i64 0, .int .i64 0, .bool false, .slice none 0 0, .int .i64 0, .bool false, .slice none 0 0, .int .i64 0, .bool false, .slice none 0 0, .int .i64 0, .bool false, .slice none 0 0, .int .i64 0, .bool false, .slice none 0 0, .bool false, .int .i64 0, .int .i64 0, .slice none 0 0]] w fun en w' => en = .returned (.int .i64 100) ∧ Below w.heap.size w w' := ckn0 w (by decide)
set_option maxHeartbeats 16000000 in
theorem fof0  (w : World) : Calls Tryd.prog 12 #[.agg #[.int .u8 0, .int .i64 0, .int .i64 0, .int .i64 0, .int .i64 0, .int .i64 0, .bool false, .slice none 0 0, .int .i64 0, .bool false, .slice none 0 0, .int .i64 0, .bool false, .slice none 0 0, .int .i64 0, .bool false, .slice none 0 0, .int .i64 0, .bool false, .slice none 0 0, .bool false, .int .i64 0, .int .i64 0, .slice none 0 0]] w fun en w' => en = .returned (.tuple #[.agg #[.bool false, .slice none 0 0, .int .i64 0, .bool false, .slice none 0 0, .int .i64 0, .bool false, .slice none 0 0, .int .i64 0, .bool false, .slice none 0 0, .int .i64 0], .int .i64 100]) ∧ Below w.heap.size w w' := by
  obtain ⟨V, hV⟩ : ∃ V, V = (w.alloc (.cells qp0 32)).alloc (.cells qp4 27) := ⟨_, rfl⟩
  have hB : Below w.heap.size w V := by rw [hV]; exact ((Below.refl _ _).alloc (Nat.le_refl _) _).alloc (by simp) _
  have ka : Blk V w.heap.size 32 qp0 := by rw [hV]; exact (Blk.new w _ _).alloc _
  have kr : Blk V (w.heap.size + 1) 27 qp4 := by rw [hV]; simpa using Blk.new (w.alloc (.cells qp0 32)) 27 qp4
  have hc := mck0 V
  have gka := Lib.hid ka
  have gkr := Lib.hid kr
  have gB := Lib.hid hB
  clear ka kr hB
  have k1 := gka.out
  go_enter Tryd.func12, Tryd.ntmps12
  go_upto_region 1 with (fail)
  rw [← hV]
  clear hV
  go_wp2_with (refine wpList_load_row rfl 32 _ rfl w.heap.size rfl 32 qp0 (0, 0) _ ?_ Tryd.underlying32 rfl (by kernel_rfl) ?_; exact k1)
  refine hc.mono ?_
  rintro en w1 ⟨rfl, hb1⟩
  clear hc k1
  have ka1 := gka.out.below hb1 gka.out.lt
  have kr1 := gkr.out.below hb1 gkr.out.lt
  have gB1 := Lib.hid (gB.out.trans (hb1.mono gB.out.size))
  have kz := kr1.setRow qp4
  have hBz := below_setRow (g := w.heap.size + 1) gB1.out (by omega) qp4
  go_wp2_with (refine wpList_store_row rfl 27 _ _ rfl (w.heap.size + 1) qp4 rfl rfl 27 qp4 ?_ info_mass rfl (by simp [Value.oneCell']) ?_; exact kr1)
  refine bodyPost_ret (ret_mass rfl _ _ (w.heap.size + 1) qp4 (.int .i64 100) rfl kz info_mass rfl) rfl ?_
  exact ⟨rfl, hBz⟩
set_option maxHeartbeats 16000000 in
theorem fof2 (g2 : Bool) (X2 : Option Addr) (n2 c2 : Nat) (e2 : Int) (g3 : Bool) (X3 : Option Addr) (n3 c3 : Nat) (e3 : Int) (m : Ms) (hsm : smM m) (hmay : mayM m = true) (w : World) (ra : RdM w w.heap.size false none 0 0 0 false none 0 0 0 g2 X2 n2 c2 e2 g3 X3 n3 c3 e3 m) : Calls Tryd.prog 12 #[.agg #[.int .u8 2, .int .i64 0, .int .i64 1, .int .i64 0, .int .i64 0, .int .i64 0, .bool false, .slice none 0 0, .int .i64 0, .bool false, .slice none 0 0, .int .i64 0, .bool g2, .slice X2 n2 c2, .int .i64 e2, .bool g3, .slice X3 n3 c3, .int .i64 e3, .bool false, .slice none 0 0, .bool false, .int .i64 0, .int .i64 0, .slice none 0 0]] w fun en w' => en = .returned (.tuple #[.agg #[.bool false, .slice none 0 0, .int .i64 0, .bool false, .slice none 0 0, .int .i64 0, .bool false, .slice none 0 0, .int .i64 0, .bool false, .slice none 0 0, .int .i64 0], .int .i64 0]) ∧ Below w.heap.size w w' := by
  obtain ⟨V, hV⟩ : ∃ V, V = (w.alloc (.cells (qp1 g2 X2 n2 c2 e2 g3 X3 n3 c3 e3) 32)).alloc (.cells qp4 27) := ⟨_, rfl⟩
  have hB : Below w.heap.size w V := by rw [hV]; exact ((Below.refl _ _).alloc (Nat.le_refl _) _).alloc (by simp) _
  have ka : Blk V w.heap.size 32 (qp1 g2 X2 n2 c2 e2 g3 X3 n3 c3 e3) := by rw [hV]; exact (Blk.new w _ _).alloc _
  have kr : Blk V (w.heap.size + 1) 27 qp4 := by rw [hV]; simpa using Blk.new (w.alloc (.cells (qp1 g2 X2 n2 c2 e2 g3 X3 n3 c3 e3) 32)) 27 qp4
  have hc := mck2 g2 X2 n2 c2 e2 g3 X3 n3 c3 e3 m hsm hmay V (ra.below hB hB.size)
  have gka := Lib.hid ka
  have gkr := Lib.hid kr
  have gB := Lib.hid hB
  clear ka kr hB
  have k1 := gka.out
  go_enter Tryd.func12, Tryd.ntmps12
  go_upto_region 1 with (fail)
  rw [← hV]
  clear hV
  go_wp2_with (refine wpList_load_row rfl 32 _ rfl w.heap.size rfl 32 (qp1 g2 X2 n2 c2 e2 g3 X3 n3 c3 e3) (0, 0) _ ?_ Tryd.underlying32 rfl (by kernel_rfl) ?_; exact k1)
  refine hc.mono ?_
  rintro en w1 ⟨rfl, hb1⟩
  clear hc k1
  have ka1 := gka.out.below hb1 gka.out.lt
  have kr1 := gkr.out.below hb1 gkr.out.lt
  have gB1 := Lib.hid (gB.out.trans (hb1.mono gB.out.size))
  have a0 : w1.cell? ⟨w.heap.size, 0, none⟩ = some (.int .u8 2) := by rw [ka1.cell]; rfl
  have kz := kr1.setRow qp4
  have hBz := below_setRow (g := w.heap.size + 1) gB1.out (by omega) qp4
  go_wp2_with (first | (refine wpList_store_row rfl 27 _ _ rfl (w.heap.size + 1) qp4 rfl rfl 27 qp4 ?_ info_mass rfl (by simp [Value.oneCell']) ?_; exact kr1) | (refine wpList_load_row rfl 27 _ rfl (w.heap.size + 1) rfl 27 qp4 (0, 0) _ ?_ Tryd.underlying27 rfl (by kernel_rfl) ?_; exact kr1))
  refine bodyPost_ret (ret_mass rfl _ _ (w.heap.size + 1) qp4 (.int .i64 0) rfl kz info_mass rfl) rfl ?_
  exact ⟨rfl, hBz⟩
theorem OwM.setRow2 {w : World} {B g : Nat} {o : MB} (h : OwM w B o) (hg : g < B) (ds : Array Value) : OwM (w.setRow g ds) B o := ⟨h.1.setRow hg ds (Nat.le_refl _), h.2.1.setRow hg ds (Nat.le_refl _), h.2.2.1.setRow hg ds (Nat.le_refl _), h.2.2.2.setRow hg ds (Nat.le_refl _)⟩
theorem mtw1 (g0 : Bool) (X0 : Option Addr) (n0 c0 : Nat) (e0 : Int) (g1 : Bool) (X1 : Option Addr) (n1 c1 : Nat) (e1 : Int) (g2 : Bool) (X2 : Option Addr) (n2 c2 : Nat) (e2 : Int) (g3 : Bool) (X3 : Option Addr) (n3 c3 : Nat) (e3 : Int) (m : Ms) (hsm : smM m) (w : World) (ra : RdM w w.heap.size g0 X0 n0 c0 e0 g1 X1 n1 c1 e1 g2 X2 n2 c2 e2 g3 X3 n3 c3 e3 m) : Calls Tryd.prog 36 #[.agg #[.bool g0, .slice X0 n0 c0, .int .i64 e0, .bool g1, .slice X1 n1 c1, .int .i64 e1, .bool g2, .slice X2 n2 c2, .int .i64 e2, .bool g3, .slice X3 n3 c3, .int .i64 e3]] w fun en w' => ∃ o : MB, o.m = m ∧ en = .returned (.agg #[.bool o.m.s.neg, .slice o.X0 o.m.s.ls.length o.c0, .int .i64 o.m.s.ex, .bool o.m.w.neg, .slice o.X1 o.m.w.ls.length o.c1, .int .i64 o.m.w.ex, .bool o.m.c.neg, .slice o.X2 o.m.c.ls.length o.c2, .int .i64 o.m.c.ex, .bool o.m.a.neg, .slice o.X3 o.m.a.ls.length o.c3, .int .i64 o.m.a.ex]) ∧ OwM w' w.heap.size o ∧ Below w.heap.size w w' := by
  refine (mtwin_any g0 X0 n0 c0 e0 g1 X1 n1 c1 e1 g2 X2 n2 c2 e2 g3 X3 n3 c3 e3 m hsm w ra).mono ?_
  rintro en w' h
  obtain ⟨Y0, k0, Y1, k1, Y2, k2, Y3, k3, rfl, ⟨l0, o0⟩, ⟨l1, o1⟩, ⟨l2, o2⟩, ⟨l3, o3⟩, hb⟩ := h
  obtain ⟨⟨a1, a2, a3, _, _⟩, ⟨b1, b2, b3, _, _⟩, ⟨d1, d2, d3, _, _⟩, ⟨f1, f2, f3, _, _⟩⟩ := ra
  subst a1 a2 a3 b1 b2 b3 d1 d2 d3 f1 f2 f3
  exact ⟨⟨m, Y0, k0, Y1, k1, Y2, k2, Y3, k3⟩, rfl, rfl, ⟨⟨l0, o0⟩, ⟨l1, o1⟩, ⟨l2, o2⟩, ⟨l3, o3⟩⟩, hb⟩
set_option maxHeartbeats 16000000 in
theorem fof1 (g0 : Bool) (X0 : Option Addr) (n0 c0 : Nat) (e0 : Int) (g1 : Bool) (X1 : Option Addr) (n1 c1 : Nat) (e1 : Int) (g2 : Bool) (X2 : Option Addr) (n2 c2 : Nat) (e2 : Int) (g3 : Bool) (X3 : Option Addr) (n3 c3 : Nat) (e3 : Int) (m : Ms) (hsm : smM m) (hmay : mayM m = true) (hc' : m.c = zdy) (ha' : m.a = zdy) (w : World) (ra : RdM w w.heap.size g0 X0 n0 c0 e0 g1 X1 n1 c1 e1 g2 X2 n2 c2 e2 g3 X3 n3 c3 e3 m) : Calls Tryd.prog 12 #[.agg #[.int .u8 1, .int .i64 0, .int .i64 1, .int .i64 0, .int .i64 0, .int .i64 0, .bool g0, .slice X0 n0 c0, .int .i64 e0, .bool g1, .slice X1 n1 c1, .int .i64 e1, .bool g2, .slice X2 n2 c2, .int .i64 e2, .bool g3, .slice X3 n3 c3, .int .i64 e3, .bool false, .slice none 0 0, .bool false, .int .i64 0, .int .i64 0, .slice none 0 0]] w fun en w' => ∃ o : MB, o.m = m ∧ en = .returned (.tuple #[.agg #[.bool o.m.s.neg, .slice o.X0 o.m.s.ls.length o.c0, .int .i64 o.m.s.ex, .bool o.m.w.neg, .slice o.X1 o.m.w.ls.length o.c1, .int .i64 o.m.w.ex, .bool o.m.c.neg, .slice o.X2 o.m.c.ls.length o.c2, .int .i64 o.m.c.ex, .bool o.m.a.neg, .slice o.X3 o.m.a.ls.length o.c3, .int .i64 o.m.a.ex], .int .i64 0]) ∧ OwM w' w.heap.size o ∧ Below w.heap.size w w' := by
  obtain ⟨V, hV⟩ : ∃ V, V = (w.alloc (.cells (qp2 g0 X0 n0 c0 e0 g1 X1 n1 c1 e1 g2 X2 n2 c2 e2 g3 X3 n3 c3 e3) 32)).alloc (.cells qp4 27) := ⟨_, rfl⟩
  have hB : Below w.heap.size w V := by rw [hV]; exact ((Below.refl _ _).alloc (Nat.le_refl _) _).alloc (by simp) _
  have ka : Blk V w.heap.size 32 (qp2 g0 X0 n0 c0 e0 g1 X1 n1 c1 e1 g2 X2 n2 c2 e2 g3 X3 n3 c3 e3) := by rw [hV]; exact (Blk.new w _ _).alloc _
  have kr : Blk V (w.heap.size + 1) 27 qp4 := by rw [hV]; simpa using Blk.new (w.alloc (.cells (qp2 g0 X0 n0 c0 e0 g1 X1 n1 c1 e1 g2 X2 n2 c2 e2 g3 X3 n3 c3 e3) 32)) 27 qp4
  have hc := mck1 g0 X0 n0 c0 e0 g1 X1 n1 c1 e1 g2 X2 n2 c2 e2 g3 X3 n3 c3 e3 m hsm hmay hc' ha' V (ra.below hB hB.size)
  have gka := Lib.hid ka
  have gkr := Lib.hid kr
  have gB := Lib.hid hB
  clear ka kr hB
  have k1 := gka.out
  go_enter Tryd.func12, Tryd.ntmps12
  go_upto_region 1 with (fail)
  rw [← hV]
  clear hV
  go_wp2_with (refine wpList_load_row rfl 32 _ rfl w.heap.size rfl 32 (qp2 g0 X0 n0 c0 e0 g1 X1 n1 c1 e1 g2 X2 n2 c2 e2 g3 X3 n3 c3 e3) (0, 0) _ ?_ Tryd.underlying32 rfl (by kernel_rfl) ?_; exact k1)
  refine hc.mono ?_
  rintro en w1 ⟨rfl, hb1⟩
  clear hc k1
  have ka1 := gka.out.below hb1 gka.out.lt
  have kr1 := gkr.out.below hb1 gkr.out.lt
  have gB1 := Lib.hid (gB.out.trans (hb1.mono gB.out.size))
  have a0 : w1.cell? ⟨w.heap.size, 0, none⟩ = some (.int .u8 1) := by rw [ka1.cell]; rfl
  have ht := mtw1 g0 X0 n0 c0 e0 g1 X1 n1 c1 e1 g2 X2 n2 c2 e2 g3 X3 n3 c3 e3 m hsm w1 (ra.below (gB1.out) gB1.out.size)
  have ra1 : w1.rangeAt w.heap.size 6 [.bool g0, .slice X0 n0 c0, .int .i64 e0, .bool g1, .slice X1 n1 c1, .int .i64 e1, .bool g2, .slice X2 n2 c2, .int .i64 e2, .bool g3, .slice X3 n3 c3, .int .i64 e3] := ka1.range 6 _ rfl
  go_wp2_with (refine wpList_load_mid rfl 27 _ rfl w.heap.size 6 rfl [.bool g0, .slice X0 n0 c0, .int .i64 e0, .bool g1, .slice X1 n1 c1, .int .i64 e1, .bool g2, .slice X2 n2 c2, .int .i64 e2, .bool g3, .slice X3 n3 c3, .int .i64 e3] _ ra1 Tryd.underlying27 rfl (by kernel_rfl) ?_)
  refine ht.mono ?_
  rintro en w2 ⟨o, ho, rfl, us, hb2⟩
  have s1 := gB1.out.size
  have kr2 := kr1.below hb2 kr1.lt
  have hB2 := gB1.out.trans (hb2.mono gB1.out.size)
  have kz := (kr2.setRow (qp3 o)).setRow (qp3 o)
  have ky := kr2.setRow (qp3 o)
  have hBz := below_setRow (g := w.heap.size + 1) (below_setRow (g := w.heap.size + 1) hB2 (by omega) (qp3 o)) (by omega) (qp3 o)
  have gu := Lib.hid ((us.setRow2 (g := w.heap.size + 1) kr1.lt (qp3 o)).setRow2 (g := w.heap.size + 1) kr1.lt (qp3 o))
  have gho := Lib.hid ho
  clear ht ra1 us ho
  go_wp2_with (first | (refine wpList_store_row rfl 27 _ _ rfl (w.heap.size + 1) (qp3 o) rfl rfl 27 qp4 ?_ info_mass rfl (by simp [Value.oneCell']) ?_; exact kr2) | (refine wpList_load_row rfl 27 _ rfl (w.heap.size + 1) rfl 27 (qp3 o) (0, 0) _ ?_ Tryd.underlying27 rfl (by kernel_rfl) ?_; exact ky) | (refine wpList_store_row rfl 27 _ _ rfl (w.heap.size + 1) (qp3 o) rfl rfl 27 (qp3 o) ?_ info_mass rfl (by simp [Value.oneCell']) ?_; exact ky))
  refine bodyPost_ret (ret_mass rfl _ _ (w.heap.size + 1) (qp3 o) (.int .i64 0) rfl kz info_mass rfl) rfl ?_
  exact ⟨o, gho.out, rfl, gu.out.base_le (by omega), hBz⟩
end Go.Proofs.YtdmjdpaehnhdoaaDoor
