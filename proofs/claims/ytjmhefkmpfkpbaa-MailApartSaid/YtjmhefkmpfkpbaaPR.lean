/- Mail: mail.Write -/
import Derived.Test.YtjmhefkmpfkpbaaPQ
import Derived.Deep.RegionHeld3
namespace Go.Proofs.Ytjmhefkmpfkpbaa
open Go.ChangeShapes Go.WideShapes Go.ChangeAt Go.RowKit
set_option linter.unusedSimpArgs false
set_option linter.unusedVariables false
/-- What mail.Write answers. -/
def WrP (m : Ml) (w : World) (en : Ending) (w' : World) : Prop := Below w.heap.size w w' ∧ ((¬ okL m ∧ en = .returned (.tuple #[.slice none 0 0, .int .i64 100])) ∨ (okL m ∧ ∃ v, en = .returned (.tuple #[v, .int .i64 0]) ∧ Owns w w' v (framed m.kd.toNat (byP m))))
set_option maxRecDepth 100000 in
set_option maxHeartbeats 16000000 in
theorem write_any (o : MO) (hsm : smL o.x) (hlt : ltL o.x) (hk0 : 0 ≤ o.x.kd ∧ o.x.kd < 256) (w : World) (hr : rdL w w.heap.size o) : Calls Try.prog 10 #[aggL o] w (WrP o.x w) := by
  obtain ⟨V, hV⟩ : ∃ V, V = w.alloc (.cells #[.int .u8 o.x.kd, .int .i64 o.x.fr, .int .i64 o.x.tt, .int .i64 o.x.ep, .int .i64 o.x.nu, .int .i64 o.x.ab, .bool o.x.give.s.neg, .slice o.X0 o.x.give.s.ls.length o.c0, .int .i64 o.x.give.s.ex, .bool o.x.give.w.neg, .slice o.X1 o.x.give.w.ls.length o.c1, .int .i64 o.x.give.w.ex, .bool o.x.give.c.neg, .slice o.X2 o.x.give.c.ls.length o.c2, .int .i64 o.x.give.c.ex, .bool o.x.give.a.neg, .slice o.X3 o.x.give.a.ls.length o.c3, .int .i64 o.x.give.a.ex, .bool o.x.wa, .slice o.D o.x.ds.length o.dc, .bool o.x.eh, .int .i64 o.x.e1, .int .i64 o.x.e2, .slice o.L o.x.ls.length o.lc] 31) := ⟨_, rfl⟩
  have hB : Below w.heap.size w V := by rw [hV]; exact (Below.refl _ _).alloc (Nat.le_refl _) _
  have ka : Blk V w.heap.size 31 #[.int .u8 o.x.kd, .int .i64 o.x.fr, .int .i64 o.x.tt, .int .i64 o.x.ep, .int .i64 o.x.nu, .int .i64 o.x.ab, .bool o.x.give.s.neg, .slice o.X0 o.x.give.s.ls.length o.c0, .int .i64 o.x.give.s.ex, .bool o.x.give.w.neg, .slice o.X1 o.x.give.w.ls.length o.c1, .int .i64 o.x.give.w.ex, .bool o.x.give.c.neg, .slice o.X2 o.x.give.c.ls.length o.c2, .int .i64 o.x.give.c.ex, .bool o.x.give.a.neg, .slice o.X3 o.x.give.a.ls.length o.c3, .int .i64 o.x.give.a.ex, .bool o.x.wa, .slice o.D o.x.ds.length o.dc, .bool o.x.eh, .int .i64 o.x.e1, .int .i64 o.x.e2, .slice o.L o.x.ls.length o.lc] := by rw [hV]; exact Blk.new w _ _
  have hc := check_any o hsm V (hr.below hB hB.size)
  have hkd : ((o.x.kd.toNat : Nat) : Int) = o.x.kd := by omega
  have hcon : okL o.x → ∀ w', Below w.heap.size w w' → Calls Try.prog 26 #[aggL o] w' fun en w'' => ∃ X c, en = .returned (.slice X (total (conP o.x)) c) ∧ w''.ownsRow w'.heap.size 5 1 (.slice X (total (conP o.x)) c) (total (conP o.x)) (u8s (flat (conP o.x))) ∧ Below w'.heap.size w' w'' := fun hok w' hw => content_any o hok hlt w' (hr.below hw hw.size)
  unfold aggL at hc hcon ⊢
  have gkd := Lib.hid hkd
  clear hkd hsm hlt hr
  go_enter Try.func10, Try.ntmps10
  go_upto_region 1 with (fail)
  rw [← hV]
  clear hV
  go_wp2_with (refine wpList_load_row rfl 31 _ rfl w.heap.size rfl 31 #[.int .u8 o.x.kd, .int .i64 o.x.fr, .int .i64 o.x.tt, .int .i64 o.x.ep, .int .i64 o.x.nu, .int .i64 o.x.ab, .bool o.x.give.s.neg, .slice o.X0 o.x.give.s.ls.length o.c0, .int .i64 o.x.give.s.ex, .bool o.x.give.w.neg, .slice o.X1 o.x.give.w.ls.length o.c1, .int .i64 o.x.give.w.ex, .bool o.x.give.c.neg, .slice o.X2 o.x.give.c.ls.length o.c2, .int .i64 o.x.give.c.ex, .bool o.x.give.a.neg, .slice o.X3 o.x.give.a.ls.length o.c3, .int .i64 o.x.give.a.ex, .bool o.x.wa, .slice o.D o.x.ds.length o.dc, .bool o.x.eh, .int .i64 o.x.e1, .int .i64 o.x.e2, .slice o.L o.x.ls.length o.lc] (0, 0) _ ka.row Try.underlying31 rfl (by kernel_rfl) ?_)
  refine hc.mono ?_
  rintro en w1 ⟨E, rfl, ⟨hok, rfl⟩ | ⟨hno, rfl⟩, hb1⟩
  rotate_left
  · have gno := Lib.hid hno
    have hB1 := hB.trans (hb1.mono hB.size)
    clear hcon hc ka hno hk0
    go_wp2
    go_ret2
    exact ⟨hB1, .inl ⟨gno.out, rfl⟩⟩
  replace hcon := hcon hok
  have hB1 := hB.trans (hb1.mono hB.size)
  have k1 := ka.below hb1 ka.lt
  have k2 : Blk w1.drew w.heap.size 31 #[.int .u8 o.x.kd, .int .i64 o.x.fr, .int .i64 o.x.tt, .int .i64 o.x.ep, .int .i64 o.x.nu, .int .i64 o.x.ab, .bool o.x.give.s.neg, .slice o.X0 o.x.give.s.ls.length o.c0, .int .i64 o.x.give.s.ex, .bool o.x.give.w.neg, .slice o.X1 o.x.give.w.ls.length o.c1, .int .i64 o.x.give.w.ex, .bool o.x.give.c.neg, .slice o.X2 o.x.give.c.ls.length o.c2, .int .i64 o.x.give.c.ex, .bool o.x.give.a.neg, .slice o.X3 o.x.give.a.ls.length o.c3, .int .i64 o.x.give.a.ex, .bool o.x.wa, .slice o.D o.x.ds.length o.dc, .bool o.x.eh, .int .i64 o.x.e1, .int .i64 o.x.e2, .slice o.L o.x.ls.length o.lc] := k1.drew
  have hB2 : Below w.heap.size w w1.drew := hB1.drew
  clear hc ka hb1
  go_upto_region 4 with (fail)
  have hkd := gkd.out
  refine wp_region_noPanic ?_
  refine wp_region_held_drew (S := fun w' => w'.cell? ⟨w.heap.size, 0, none⟩ = some (.int .u8 o.x.kd) ∧ w'.rangeAt w.heap.size 0 [.int .u8 o.x.kd, .int .i64 o.x.fr, .int .i64 o.x.tt, .int .i64 o.x.ep, .int .i64 o.x.nu, .int .i64 o.x.ab, .bool o.x.give.s.neg, .slice o.X0 o.x.give.s.ls.length o.c0, .int .i64 o.x.give.s.ex, .bool o.x.give.w.neg, .slice o.X1 o.x.give.w.ls.length o.c1, .int .i64 o.x.give.w.ex, .bool o.x.give.c.neg, .slice o.X2 o.x.give.c.ls.length o.c2, .int .i64 o.x.give.c.ex, .bool o.x.give.a.neg, .slice o.X3 o.x.give.a.ls.length o.c3, .int .i64 o.x.give.a.ex, .bool o.x.wa, .slice o.D o.x.ds.length o.dc, .bool o.x.eh, .int .i64 o.x.e1, .int .i64 o.x.e2, .slice o.L o.x.ls.length o.lc]) (by kernel_rfl) (⟨by rw [k2.cell]; rfl, k2.range 0 _ rfl⟩) (fun hHeld => ?_)
  refine wpAnyH_take (i := 0) (oi := ?o0) (v := ?v0) ?ho0 (by kernel_rfl) (by kernel_rfl) (by kernel_rfl) (fun _ _ _ h => h) (Or.inl ⟨?wn0, ?yn0⟩) (by assumption) ?rest0
  case ho0 => (simp only [List.getElem?_toArray, List.getElem?_cons_zero, List.getElem?_cons_succ]; rfl)
  case wn0 => rfl
  case yn0 => (intro w hSw; (try dsimp only at hSw); go_simp; (try with_reducible rfl))
  (try simp only [Act.put, List.setIfInBounds_toArray, List.set_cons_zero, List.set_cons_succ])
  refine wpAnyH_take (i := 1) (oi := ?o1) (v := ?v1) ?ho1 (by kernel_rfl) (by kernel_rfl) (by kernel_rfl) (fun _ _ _ h => h) (Or.inl ⟨?wn1, ?yn1⟩) (by assumption) ?rest1
  case ho1 => (simp only [List.getElem?_toArray, List.getElem?_cons_zero, List.getElem?_cons_succ]; rfl)
  case wn1 => rfl
  case yn1 => (intro w hSw; (try dsimp only at hSw); go_simp; (try with_reducible rfl))
  (try simp only [Act.put, List.setIfInBounds_toArray, List.set_cons_zero, List.set_cons_succ])
  refine wpAnyH_take (i := 2) (oi := ?o2) (v := .agg ([.int .u8 o.x.kd, .int .i64 o.x.fr, .int .i64 o.x.tt, .int .i64 o.x.ep, .int .i64 o.x.nu, .int .i64 o.x.ab, .bool o.x.give.s.neg, .slice o.X0 o.x.give.s.ls.length o.c0, .int .i64 o.x.give.s.ex, .bool o.x.give.w.neg, .slice o.X1 o.x.give.w.ls.length o.c1, .int .i64 o.x.give.w.ex, .bool o.x.give.c.neg, .slice o.X2 o.x.give.c.ls.length o.c2, .int .i64 o.x.give.c.ex, .bool o.x.give.a.neg, .slice o.X3 o.x.give.a.ls.length o.c3, .int .i64 o.x.give.a.ex, .bool o.x.wa, .slice o.D o.x.ds.length o.dc, .bool o.x.eh, .int .i64 o.x.e1, .int .i64 o.x.e2, .slice o.L o.x.ls.length o.lc] : List Value).toArray) ?ho2 (by kernel_rfl) (by kernel_rfl) (by kernel_rfl) (fun _ _ _ h => h) (yieldsIf_load_mid ?wn2 31 (.tmp 1) ?on2 w.heap.size 0 ?xn2 [.int .u8 o.x.kd, .int .i64 o.x.fr, .int .i64 o.x.tt, .int .i64 o.x.ep, .int .i64 o.x.nu, .int .i64 o.x.ab, .bool o.x.give.s.neg, .slice o.X0 o.x.give.s.ls.length o.c0, .int .i64 o.x.give.s.ex, .bool o.x.give.w.neg, .slice o.X1 o.x.give.w.ls.length o.c1, .int .i64 o.x.give.w.ex, .bool o.x.give.c.neg, .slice o.X2 o.x.give.c.ls.length o.c2, .int .i64 o.x.give.c.ex, .bool o.x.give.a.neg, .slice o.X3 o.x.give.a.ls.length o.c3, .int .i64 o.x.give.a.ex, .bool o.x.wa, .slice o.D o.x.ds.length o.dc, .bool o.x.eh, .int .i64 o.x.e1, .int .i64 o.x.e2, .slice o.L o.x.ls.length o.lc] _ (fun w h => h.2) Try.underlying31 rfl (by kernel_rfl)) (by assumption) ?rest2
  case ho2 => (simp only [List.getElem?_toArray, List.getElem?_cons_zero, List.getElem?_cons_succ]; rfl)
  case on2 => rfl
  case wn2 => rfl
  case xn2 => rfl
  (try simp only [Act.put, List.setIfInBounds_toArray, List.set_cons_zero, List.set_cons_succ])
  refine wpAnyH_ready (rs := [3]) (by kernel_rfl) (by simp) ?_
  refine AllReadyH.cons (o := ?o3) ?ho3 (fun K hK => ?rest3) AllReadyH.nil
  case ho3 => (simp only [List.getElem?_toArray, List.getElem?_cons_zero, List.getElem?_cons_succ]; rfl)
  go_simp
  with_reducible refine (hcon _ (by assumption)).mono ?_
  rintro en w3 ⟨X, cx, rfl, ho, hb3⟩
  have k3 := k2.below hb3 k2.lt
  have hp := fput_ok o.x.kd.toNat (by omega) X cx (byP o.x) (byP_lt _) (by rw [byP_len]; have := conP_total hok; omega) w3 (by rw [byP_len, show bytes (byP o.x) = u8s (flat (conP o.x)) from (u8s_bytes (fun b hb => (flat_byte _ b hb).1)).symm]; exact Reads.of_own ho)
  rw [byP_len, hkd] at hp
  have ghb3 := Lib.hid hb3
  clear ho hb3
  refine hK.out _ _ (⟨by rw [k3.cell]; rfl, k3.range 0 _ rfl⟩) (fun hHeld => ?_)
  clear hK K
  (try simp only [Act.put, List.setIfInBounds_toArray, List.set_cons_zero, List.set_cons_succ])
  refine wpAnyH_ready (rs := [4]) (by kernel_rfl) (by simp) ?_
  refine AllReadyH.cons (o := ?o4) ?ho4 (fun K hK => ?rest4) AllReadyH.nil
  case ho4 => (simp only [List.getElem?_toArray, List.getElem?_cons_zero, List.getElem?_cons_succ]; rfl)
  go_simp
  with_reducible refine hp.mono ?_
  rintro en w4 ⟨v4, rfl, ho4, hb4⟩
  have k4 := k3.below hb4 k3.lt
  have gho4 := Lib.hid ho4
  have ghb4 := Lib.hid hb4
  clear ho4 hb4 hp
  refine hK.out _ _ (⟨by rw [k4.cell]; rfl, k4.range 0 _ rfl⟩) (fun hHeld => ?_)
  clear hK K
  (try simp only [Act.put, List.setIfInBounds_toArray, List.set_cons_zero, List.set_cons_succ])
  refine wpAnyH_take (i := 5) (oi := ?o5) (v := ?v5) ?ho5 (by kernel_rfl) (by kernel_rfl) (by kernel_rfl) (fun _ _ _ h => h) (Or.inl ⟨?wn5, ?yn5⟩) (by assumption) ?rest5
  case ho5 => (simp only [List.getElem?_toArray, List.getElem?_cons_zero, List.getElem?_cons_succ]; rfl)
  case wn5 => rfl
  case yn5 => (intro w hSw; (try dsimp only at hSw); go_simp; (try with_reducible rfl))
  (try simp only [Act.put, List.setIfInBounds_toArray, List.set_cons_zero, List.set_cons_succ])
  refine wpAnyH_take (i := 6) (oi := ?o6) (v := ?v6) ?ho6 (by kernel_rfl) (by kernel_rfl) (by kernel_rfl) (fun _ _ _ h => h) (Or.inl ⟨?wn6, ?yn6⟩) (by assumption) ?rest6
  case ho6 => (simp only [List.getElem?_toArray, List.getElem?_cons_zero, List.getElem?_cons_succ]; rfl)
  case wn6 => rfl
  case yn6 => (intro w hSw; (try dsimp only at hSw); go_simp; (try with_reducible rfl))
  (try simp only [Act.put, List.setIfInBounds_toArray, List.set_cons_zero, List.set_cons_succ])
  refine wpAnyH_take (i := 7) (oi := ?o7) (v := ?v7) ?ho7 (by kernel_rfl) (by kernel_rfl) (by kernel_rfl) (fun _ _ _ h => h) (Or.inl ⟨?wn7, ?yn7⟩) (by assumption) ?rest7
  case ho7 => (simp only [List.getElem?_toArray, List.getElem?_cons_zero, List.getElem?_cons_succ]; rfl)
  case wn7 => rfl
  case yn7 => (intro w hSw; (try dsimp only at hSw); go_simp; (try with_reducible rfl))
  (try simp only [Act.put, List.setIfInBounds_toArray, List.set_cons_zero, List.set_cons_succ])
  refine wpAnyH_take (i := 8) (oi := ?o8) (v := ?v8) ?ho8 (by kernel_rfl) (by kernel_rfl) (by kernel_rfl) (fun _ _ _ h => h) (Or.inl ⟨?wn8, ?yn8⟩) (by assumption) ?rest8
  case ho8 => (simp only [List.getElem?_toArray, List.getElem?_cons_zero, List.getElem?_cons_succ]; rfl)
  case wn8 => rfl
  case yn8 => (intro w hSw; (try dsimp only at hSw); go_simp; (try with_reducible rfl))
  (try simp only [Act.put, List.setIfInBounds_toArray, List.set_cons_zero, List.set_cons_succ])
  refine wpAnyH_done (by kernel_rfl) ?_ _
  refine NoPanic.normal ?_
  have gB4 := Lib.hid ((hB2.trans (ghb3.out.mono hB2.size)).trans (ghb4.out.mono (Nat.le_trans hB2.size ghb3.out.size)))
  have gow : Hid (Owns w w4 v4 (framed o.x.kd.toNat (byP o.x))) := Lib.hid (own_mono gho4.out (Nat.le_trans hB2.size ghb3.out.size))
  have gok := Lib.hid hok
  clear hkd k1 k2 k3 k4 hcon hok hB hB1 hB2 ghb3 ghb4 gho4 gkd hk0
  go_wp2
  go_ret2
  exact ⟨gB4.out, .inr ⟨gok.out, v4, rfl, gow.out⟩⟩
end Go.Proofs.Ytjmhefkmpfkpbaa
