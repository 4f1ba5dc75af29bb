/- Door: mass.Add -/
import Derived.Test.YtdmjdpaehnhdoaaDoorDM
import Derived.Test.YtdmjdpaehnhdoaaDoorKA
namespace Go.Proofs.YtdmjdpaehnhdoaaDoor
open Go.ChangeShapes Go.WideShapes Go.ChangeAt Go.RowKit
set_option linter.unusedSimpArgs false
set_option linter.unusedVariables false
theorem ownR_setRow {w : World} {base n g : Nat} {e : TypeId} {A : Option Addr} {xs : List Value} (h : OwnR w base e A n xs) (hg : g < base) (cs : Array Value) : OwnR (w.setRow g cs) base e A n xs :=
  ⟨h.1, fun h0 => by
    obtain ⟨q, cur, hA, hb, hh, ht⟩ := h.2 h0
    exact ⟨q, cur, hA, hb, Blk.setRow_far hh (by omega) cs, ht⟩⟩
theorem OwD.setRow {w : World} {B c g : Nat} {X : Option Addr} {d : Dy} (h : OwD w B X c d) (hg : g < B) (cs : Array Value) {B' : Nat} (hB : B' ≤ B) : OwD (w.setRow g cs) B' X c d := ⟨h.1, (ownR_setRow h.2 hg cs).base_le hB⟩
theorem info_mass : (Tryd.prog.info? 27).map (·.size) = some 12 := by kernel_rfl
set_option maxRecDepth 100000 in
set_option maxHeartbeats 8000000 in
theorem madd_any (m k : Ms) (lm : ltM4 m) (lk : ltM4 k) (aX0 : Option Addr) (ac0 : Nat) (aX1 : Option Addr) (ac1 : Nat) (aX2 : Option Addr) (ac2 : Nat) (aX3 : Option Addr) (ac3 : Nat) (bX0 : Option Addr) (bc0 : Nat) (bX1 : Option Addr) (bc1 : Nat) (bX2 : Option Addr) (bc2 : Nat) (bX3 : Option Addr) (bc3 : Nat) (w : World) (ra : RdM w w.heap.size m.s.neg aX0 m.s.ls.length ac0 m.s.ex m.w.neg aX1 m.w.ls.length ac1 m.w.ex m.c.neg aX2 m.c.ls.length ac2 m.c.ex m.a.neg aX3 m.a.ls.length ac3 m.a.ex m) (rb : RdM w w.heap.size k.s.neg bX0 k.s.ls.length bc0 k.s.ex k.w.neg bX1 k.w.ls.length bc1 k.w.ex k.c.neg bX2 k.c.ls.length bc2 k.c.ex k.a.neg bX3 k.a.ls.length bc3 k.a.ex k) (hT : Tab w) :
    Calls Tryd.prog 25 #[.agg #[.bool m.s.neg, .slice aX0 m.s.ls.length ac0, .int .i64 m.s.ex, .bool m.w.neg, .slice aX1 m.w.ls.length ac1, .int .i64 m.w.ex, .bool m.c.neg, .slice aX2 m.c.ls.length ac2, .int .i64 m.c.ex, .bool m.a.neg, .slice aX3 m.a.ls.length ac3, .int .i64 m.a.ex], .agg #[.bool k.s.neg, .slice bX0 k.s.ls.length bc0, .int .i64 k.s.ex, .bool k.w.neg, .slice bX1 k.w.ls.length bc1, .int .i64 k.w.ex, .bool k.c.neg, .slice bX2 k.c.ls.length bc2, .int .i64 k.c.ex, .bool k.a.neg, .slice bX3 k.a.ls.length bc3, .int .i64 k.a.ex]] w (MaddP m k w) := by
  obtain ⟨V, hV⟩ : ∃ V, V = (((w.alloc (.cells #[.bool m.s.neg, .slice aX0 m.s.ls.length ac0, .int .i64 m.s.ex, .bool m.w.neg, .slice aX1 m.w.ls.length ac1, .int .i64 m.w.ex, .bool m.c.neg, .slice aX2 m.c.ls.length ac2, .int .i64 m.c.ex, .bool m.a.neg, .slice aX3 m.a.ls.length ac3, .int .i64 m.a.ex] 27)).alloc (.cells #[.bool k.s.neg, .slice bX0 k.s.ls.length bc0, .int .i64 k.s.ex, .bool k.w.neg, .slice bX1 k.w.ls.length bc1, .int .i64 k.w.ex, .bool k.c.neg, .slice bX2 k.c.ls.length bc2, .int .i64 k.c.ex, .bool k.a.neg, .slice bX3 k.a.ls.length bc3, .int .i64 k.a.ex] 27)).alloc (.cells #[.bool false, .slice none 0 0, .int .i64 0, .bool false, .slice none 0 0, .int .i64 0, .bool false, .slice none 0 0, .int .i64 0, .bool false, .slice none 0 0, .int .i64 0] 27)) := ⟨_, rfl⟩
  have ka : Blk V w.heap.size 27 #[.bool m.s.neg, .slice aX0 m.s.ls.length ac0, .int .i64 m.s.ex, .bool m.w.neg, .slice aX1 m.w.ls.length ac1, .int .i64 m.w.ex, .bool m.c.neg, .slice aX2 m.c.ls.length ac2, .int .i64 m.c.ex, .bool m.a.neg, .slice aX3 m.a.ls.length ac3, .int .i64 m.a.ex] := by rw [hV]; exact ((Blk.new w _ _).alloc _).alloc _
  have kb : Blk V (w.heap.size + 1) 27 #[.bool k.s.neg, .slice bX0 k.s.ls.length bc0, .int .i64 k.s.ex, .bool k.w.neg, .slice bX1 k.w.ls.length bc1, .int .i64 k.w.ex, .bool k.c.neg, .slice bX2 k.c.ls.length bc2, .int .i64 k.c.ex, .bool k.a.neg, .slice bX3 k.a.ls.length bc3, .int .i64 k.a.ex] := by
    have h := (Blk.new (w.alloc (.cells #[.bool m.s.neg, .slice aX0 m.s.ls.length ac0, .int .i64 m.s.ex, .bool m.w.neg, .slice aX1 m.w.ls.length ac1, .int .i64 m.w.ex, .bool m.c.neg, .slice aX2 m.c.ls.length ac2, .int .i64 m.c.ex, .bool m.a.neg, .slice aX3 m.a.ls.length ac3, .int .i64 m.a.ex] 27)) 27 #[.bool k.s.neg, .slice bX0 k.s.ls.length bc0, .int .i64 k.s.ex, .bool k.w.neg, .slice bX1 k.w.ls.length bc1, .int .i64 k.w.ex, .bool k.c.neg, .slice bX2 k.c.ls.length bc2, .int .i64 k.c.ex, .bool k.a.neg, .slice bX3 k.a.ls.length bc3, .int .i64 k.a.ex]).alloc (.cells #[.bool false, .slice none 0 0, .int .i64 0, .bool false, .slice none 0 0, .int .i64 0, .bool false, .slice none 0 0, .int .i64 0, .bool false, .slice none 0 0, .int .i64 0] 27)
    rw [World.size_alloc] at h
    rw [hV]; exact h
  have kr : Blk V (w.heap.size + 1 + 1) 27 #[.bool false, .slice none 0 0, .int .i64 0, .bool false, .slice none 0 0, .int .i64 0, .bool false, .slice none 0 0, .int .i64 0, .bool false, .slice none 0 0, .int .i64 0] := by
    have h := Blk.new ((w.alloc (.cells #[.bool m.s.neg, .slice aX0 m.s.ls.length ac0, .int .i64 m.s.ex, .bool m.w.neg, .slice aX1 m.w.ls.length ac1, .int .i64 m.w.ex, .bool m.c.neg, .slice aX2 m.c.ls.length ac2, .int .i64 m.c.ex, .bool m.a.neg, .slice aX3 m.a.ls.length ac3, .int .i64 m.a.ex] 27)).alloc (.cells #[.bool k.s.neg, .slice bX0 k.s.ls.length bc0, .int .i64 k.s.ex, .bool k.w.neg, .slice bX1 k.w.ls.length bc1, .int .i64 k.w.ex, .bool k.c.neg, .slice bX2 k.c.ls.length bc2, .int .i64 k.c.ex, .bool k.a.neg, .slice bX3 k.a.ls.length bc3, .int .i64 k.a.ex] 27)) 27 #[.bool false, .slice none 0 0, .int .i64 0, .bool false, .slice none 0 0, .int .i64 0, .bool false, .slice none 0 0, .int .i64 0, .bool false, .slice none 0 0, .int .i64 0]
    rw [World.size_alloc, World.size_alloc] at h
    rw [hV]; exact h
  have hB : Below w.heap.size w V := by rw [hV]; exact (((Below.refl _ w).alloc (Nat.le_refl _) _).alloc (by simp) _).alloc (by simp only [World.size_alloc]; omega) _
  have sz : V.heap.size = w.heap.size + 1 + 1 + 1 := by rw [hV]; simp
  have he := meach_any m k lm lk aX0 ac0 aX1 ac1 aX2 ac2 aX3 ac3 bX0 bc0 bX1 bc1 bX2 bc2 bX3 bc3 V (ra.below hB hB.size) (rb.below hB hB.size) (hT.below hB hT.2)
  have gka := Lib.hid ka
  have gkb := Lib.hid kb
  have gkr := Lib.hid kr
  have gB := Lib.hid hB
  clear ra rb hT ka kb kr hB
  have k1 := gka.out
  have k2 := gkb.out
  go_enter Tryd.func25, Tryd.ntmps25
  go_upto_region 1 with (fail)
  rw [← hV]
  clear hV
  go_wp2_with (first | (refine wpList_load_row rfl 27 _ rfl w.heap.size rfl 27 #[.bool m.s.neg, .slice aX0 m.s.ls.length ac0, .int .i64 m.s.ex, .bool m.w.neg, .slice aX1 m.w.ls.length ac1, .int .i64 m.w.ex, .bool m.c.neg, .slice aX2 m.c.ls.length ac2, .int .i64 m.c.ex, .bool m.a.neg, .slice aX3 m.a.ls.length ac3, .int .i64 m.a.ex] (0, 0) _ ?_ Tryd.underlying27 rfl (by kernel_rfl) ?_; exact k1) | (refine wpList_load_row rfl 27 _ rfl (w.heap.size + 1) rfl 27 #[.bool k.s.neg, .slice bX0 k.s.ls.length bc0, .int .i64 k.s.ex, .bool k.w.neg, .slice bX1 k.w.ls.length bc1, .int .i64 k.w.ex, .bool k.c.neg, .slice bX2 k.c.ls.length bc2, .int .i64 k.c.ex, .bool k.a.neg, .slice bX3 k.a.ls.length bc3, .int .i64 k.a.ex] (0, 0) _ ?_ Tryd.underlying27 rfl (by kernel_rfl) ?_; exact k2))
  refine he.mono ?_
  rintro en w3 ⟨hb, hres⟩
  have k3 := gkr.out.below hb (by omega)
  have hB3 := gB.out.trans (hb.mono gB.out.size)
  clear k1 k2 he gka gkb
  rcases hres with ⟨h1, rfl⟩ | ⟨h1, ⟨h2, rfl⟩ | ⟨d, h2, X0, c0, X1, c1, X2, c2, X3, c3, rfl, o0, o1, o2, o3⟩⟩
  · have kz := k3.setRow #[.bool false, .slice none 0 0, .int .i64 0, .bool false, .slice none 0 0, .int .i64 0, .bool false, .slice none 0 0, .int .i64 0, .bool false, .slice none 0 0, .int .i64 0]
    have hBz := below_setRow (g := w.heap.size + 1 + 1) hB3 (by omega) #[.bool false, .slice none 0 0, .int .i64 0, .bool false, .slice none 0 0, .int .i64 0, .bool false, .slice none 0 0, .int .i64 0, .bool false, .slice none 0 0, .int .i64 0]
    go_wp2_with (refine wpList_store_row rfl 27 _ _ rfl (w.heap.size + 1 + 1) #[.bool false, .slice none 0 0, .int .i64 0, .bool false, .slice none 0 0, .int .i64 0, .bool false, .slice none 0 0, .int .i64 0, .bool false, .slice none 0 0, .int .i64 0] rfl rfl 27 #[.bool false, .slice none 0 0, .int .i64 0, .bool false, .slice none 0 0, .int .i64 0, .bool false, .slice none 0 0, .int .i64 0, .bool false, .slice none 0 0, .int .i64 0] ?_ info_mass rfl (by simp [Value.oneCell']) ?_; exact k3)
    refine bodyPost_ret (ret_mass rfl _ _ (w.heap.size + 1 + 1) #[.bool false, .slice none 0 0, .int .i64 0, .bool false, .slice none 0 0, .int .i64 0, .bool false, .slice none 0 0, .int .i64 0, .bool false, .slice none 0 0, .int .i64 0] (.int .i64 8) rfl kz (by kernel_rfl) rfl) rfl ?_
    exact ⟨hBz, .inl ⟨h1, rfl⟩⟩
  · have kz := k3.setRow #[.bool false, .slice none 0 0, .int .i64 0, .bool false, .slice none 0 0, .int .i64 0, .bool false, .slice none 0 0, .int .i64 0, .bool false, .slice none 0 0, .int .i64 0]
    have hBz := below_setRow (g := w.heap.size + 1 + 1) hB3 (by omega) #[.bool false, .slice none 0 0, .int .i64 0, .bool false, .slice none 0 0, .int .i64 0, .bool false, .slice none 0 0, .int .i64 0, .bool false, .slice none 0 0, .int .i64 0]
    go_wp2_with (refine wpList_store_row rfl 27 _ _ rfl (w.heap.size + 1 + 1) #[.bool false, .slice none 0 0, .int .i64 0, .bool false, .slice none 0 0, .int .i64 0, .bool false, .slice none 0 0, .int .i64 0, .bool false, .slice none 0 0, .int .i64 0] rfl rfl 27 #[.bool false, .slice none 0 0, .int .i64 0, .bool false, .slice none 0 0, .int .i64 0, .bool false, .slice none 0 0, .int .i64 0, .bool false, .slice none 0 0, .int .i64 0] ?_ info_mass rfl (by simp [Value.oneCell']) ?_; exact k3)
    refine bodyPost_ret (ret_mass rfl _ _ (w.heap.size + 1 + 1) #[.bool false, .slice none 0 0, .int .i64 0, .bool false, .slice none 0 0, .int .i64 0, .bool false, .slice none 0 0, .int .i64 0, .bool false, .slice none 0 0, .int .i64 0] (.int .i64 10) rfl kz (by kernel_rfl) rfl) rfl ?_
    exact ⟨hBz, .inr ⟨h1, .inl ⟨h2, rfl⟩⟩⟩
  · have kz := k3.setRow #[.bool d.s.neg, .slice X0 d.s.ls.length c0, .int .i64 d.s.ex, .bool d.w.neg, .slice X1 d.w.ls.length c1, .int .i64 d.w.ex, .bool d.c.neg, .slice X2 d.c.ls.length c2, .int .i64 d.c.ex, .bool d.a.neg, .slice X3 d.a.ls.length c3, .int .i64 d.a.ex]
    have hBz := below_setRow (g := w.heap.size + 1 + 1) hB3 (by omega) #[.bool d.s.neg, .slice X0 d.s.ls.length c0, .int .i64 d.s.ex, .bool d.w.neg, .slice X1 d.w.ls.length c1, .int .i64 d.w.ex, .bool d.c.neg, .slice X2 d.c.ls.length c2, .int .i64 d.c.ex, .bool d.a.neg, .slice X3 d.a.ls.length c3, .int .i64 d.a.ex]
    have g0 := Lib.hid (o0.setRow (g := w.heap.size + 1 + 1) (by omega) #[.bool d.s.neg, .slice X0 d.s.ls.length c0, .int .i64 d.s.ex, .bool d.w.neg, .slice X1 d.w.ls.length c1, .int .i64 d.w.ex, .bool d.c.neg, .slice X2 d.c.ls.length c2, .int .i64 d.c.ex, .bool d.a.neg, .slice X3 d.a.ls.length c3, .int .i64 d.a.ex] (show w.heap.size ≤ V.heap.size by omega))
    have g1 := Lib.hid (o1.setRow (g := w.heap.size + 1 + 1) (by omega) #[.bool d.s.neg, .slice X0 d.s.ls.length c0, .int .i64 d.s.ex, .bool d.w.neg, .slice X1 d.w.ls.length c1, .int .i64 d.w.ex, .bool d.c.neg, .slice X2 d.c.ls.length c2, .int .i64 d.c.ex, .bool d.a.neg, .slice X3 d.a.ls.length c3, .int .i64 d.a.ex] (show w.heap.size ≤ V.heap.size by omega))
    have g2 := Lib.hid (o2.setRow (g := w.heap.size + 1 + 1) (by omega) #[.bool d.s.neg, .slice X0 d.s.ls.length c0, .int .i64 d.s.ex, .bool d.w.neg, .slice X1 d.w.ls.length c1, .int .i64 d.w.ex, .bool d.c.neg, .slice X2 d.c.ls.length c2, .int .i64 d.c.ex, .bool d.a.neg, .slice X3 d.a.ls.length c3, .int .i64 d.a.ex] (show w.heap.size ≤ V.heap.size by omega))
    have g3 := Lib.hid (o3.setRow (g := w.heap.size + 1 + 1) (by omega) #[.bool d.s.neg, .slice X0 d.s.ls.length c0, .int .i64 d.s.ex, .bool d.w.neg, .slice X1 d.w.ls.length c1, .int .i64 d.w.ex, .bool d.c.neg, .slice X2 d.c.ls.length c2, .int .i64 d.c.ex, .bool d.a.neg, .slice X3 d.a.ls.length c3, .int .i64 d.a.ex] (show w.heap.size ≤ V.heap.size by omega))
    clear o0 o1 o2 o3
    go_wp2_with (refine wpList_store_row rfl 27 _ _ rfl (w.heap.size + 1 + 1) #[.bool d.s.neg, .slice X0 d.s.ls.length c0, .int .i64 d.s.ex, .bool d.w.neg, .slice X1 d.w.ls.length c1, .int .i64 d.w.ex, .bool d.c.neg, .slice X2 d.c.ls.length c2, .int .i64 d.c.ex, .bool d.a.neg, .slice X3 d.a.ls.length c3, .int .i64 d.a.ex] rfl rfl 27 #[.bool false, .slice none 0 0, .int .i64 0, .bool false, .slice none 0 0, .int .i64 0, .bool false, .slice none 0 0, .int .i64 0, .bool false, .slice none 0 0, .int .i64 0] ?_ info_mass rfl (by simp [Value.oneCell']) ?_; exact k3)
    refine bodyPost_ret (ret_mass rfl _ _ (w.heap.size + 1 + 1) #[.bool d.s.neg, .slice X0 d.s.ls.length c0, .int .i64 d.s.ex, .bool d.w.neg, .slice X1 d.w.ls.length c1, .int .i64 d.w.ex, .bool d.c.neg, .slice X2 d.c.ls.length c2, .int .i64 d.c.ex, .bool d.a.neg, .slice X3 d.a.ls.length c3, .int .i64 d.a.ex] (.int .i64 0) rfl kz (by kernel_rfl) rfl) rfl ?_
    exact ⟨hBz, .inr ⟨h1, .inr ⟨d, h2, X0, c0, X1, c1, X2, c2, X3, c3, rfl, g0.out, g1.out, g2.out, g3.out⟩⟩⟩
end Go.Proofs.YtdmjdpaehnhdoaaDoor
