/- Mail: the content, whatever the kind | Mail: a mail's text tells the mail (plain) | Mail: mail.Write | Mail: great mails, the chapter's mail | Mail: the chapter's examples | Mail: mail's reader: a dyad taken -/
import Derived.Deep.RegionHeld3
import Derived.Test.YtjmhefkmpfkpbaaPM1
import Derived.Test.YtjmhefkmpfkpbaaPNO
import Derived.Test.YtjmhefkmpfkpbaaZLL
import Derived.Test.YtjmhefkmpfkpbaaZR
import Derived.Test.YtjmhefkmpfkpbaaZPlain
import Derived.Test.YtjmhefkmpfkpbaaBackP
import Derived.Test.YtjmhefkmpfkpbaaF
import Derived.Test.YtjmhefkmpfkpbaaMB
namespace Go.Proofs.Ytjmhefkmpfkpbaa
open Go.ChangeShapes Go.WideShapes Go.ChangeAt Go.RowKit
set_option linter.unusedSimpArgs false
set_option linter.unusedVariables false
theorem mayd_len {d : Dy} (h : mayd d = true) : d.ls.length ≤ 40 := by
  simp only [mayd, mayD, mayL, Bool.and_eq_true, decide_eq_true_eq, List.length_map] at h
  exact h.1.1
theorem mayM_parts {m : Ms} (h : mayM m = true) : mayd m.s = true ∧ mayd m.w = true ∧ mayd m.c = true ∧ mayd m.a = true := by
  simp only [mayM, Bool.and_eq_true] at h
  exact ⟨h.1, h.2.1, h.2.2.1, h.2.2.2⟩
theorem badN_no {x : Int} (h : badN x = false) : 0 ≤ x ∧ x < 8 := by
  simp only [badN, Bool.or_eq_false_iff, decide_eq_false_iff_not] at h
  omega
theorem chkD_ok {l : List Tm} (h : chkD l = 0) : l.length ≤ 64 ∧ ∀ k, k < l.length → mayT (tz l k) = true := by
  unfold chkD at h
  by_cases h1 : 64 < l.length
  · rw [if_pos h1] at h; omega
  rw [if_neg h1] at h
  refine ⟨by omega, fun k hk => ?_⟩
  by_cases h2 : (l.any fun t => !mayT t) = true
  · rw [if_pos h2] at h; omega
  · have h3 : (l.any fun t => !mayT t) = false := by simpa using h2
    rw [List.any_eq_false] at h3
    have := h3 _ (List.mem_of_getElem? (tz_lt hk))
    simpa using this
theorem mayE_ok {b : Bool} {x y : Int} (h : mayE b x y = true) : (-2147483647 ≤ x ∧ x ≤ 2147483647) ∧ (-2147483647 ≤ y ∧ y ≤ 2147483647) := by
  unfold mayE at h
  cases b
  · simp at h
    omega
  · simp at h
    omega
theorem content_any (o : MO) (hok : okL o.x) (hb : ltL o.x) (w : World) (hr : rdL w w.heap.size o) : Calls Try.prog 26 #[aggL o] w fun en w' => ∃ X c, en = .returned (.slice X (total (conP o.x)) c) ∧ w'.ownsRow w.heap.size 5 1 (.slice X (total (conP o.x)) c) (total (conP o.x)) (u8s (flat (conP o.x))) ∧ Below w.heap.size w w' := by
  obtain ⟨⟨k1, k2, ⟨n1, n2⟩, n3, n4, n5, n6, n7, n8⟩, hm, hd, he, hl, hu⟩ := hok
  obtain ⟨m0, m1, m2, m3⟩ := mayM_parts hm
  obtain ⟨hb0, hb1, hb2, hb3⟩ := hb.1
  obtain ⟨d1, d2⟩ := chkD_ok hd
  obtain ⟨e1, e2⟩ := mayE_ok he
  have f1 := badN_no n1
  have f2 := badN_no n2
  have hc : o.x.kd = 1 ∨ o.x.kd = 2 ∨ o.x.kd = 3 ∨ o.x.kd = 4 ∨ o.x.kd = 5 ∨ o.x.kd = 6 := by omega
  obtain ⟨x, X0, c0, X1, c1, X2, c2, X3, c3, D, dc, L, lc⟩ := o
  obtain ⟨kd, fr, tt, ep, nu, ab, ⟨gs, gw, gc, ga⟩, wa, ds, eh, x1, x2, ls⟩ := x
  obtain ⟨⟨⟨_, _, _, _, r0⟩, ⟨_, _, _, _, r1⟩, ⟨_, _, _, _, r2⟩, ⟨_, _, _, _, r3⟩⟩, rd, rl⟩ := hr
  simp only at hc k1 k2 n1 n2 n3 n4 n5 n6 n7 n8 m0 m1 m2 m3 hb0 hb1 hb2 hb3 d1 d2 e1 e2 f1 f2 hl r0 r1 r2 r3 rd rl hb
  rcases hc with rfl | rfl | rfl | rfl | rfl | rfl
  · exact con1 w f1 f2 ⟨n3, n4⟩ ⟨n5, n6⟩ gs.ls gw.ls rfl rfl (mayd_len m0) (mayd_len m1) r0 r1 m0 m1 hb0 hb1
  · exact con2 w f1 f2 ⟨n3, n4⟩ ⟨n5, n6⟩ gc.ls ga.ls rfl rfl (mayd_len m2) (mayd_len m3) r2 r3 m2 m3 hb2 hb3
  · exact con3 w f1 f2 ⟨n3, n4⟩ ⟨n5, n6⟩ ⟨n7, n8⟩ gc.ls ga.ls rfl rfl (mayd_len m2) (mayd_len m3) r2 r3 m2 m3 hb2 hb3
  · exact con4 w f1 f2 ⟨n3, n4⟩ ⟨n5, n6⟩ ⟨n7, n8⟩
  · exact con5 w f1 f2 ⟨n3, n4⟩ ⟨n5, n6⟩ ds d1 rd d2
  · exact con6 w f1 f2 ⟨n3, n4⟩ ⟨n5, n6⟩ ls hl.2 rfl rl hb.2 e1 e2
end Go.Proofs.Ytjmhefkmpfkpbaa
namespace Go.Proofs.Ytjmhefkmpfkpbaa
open Go.ChangeShapes Go.WideShapes Go.ChangeAt Go.RowKit
set_option linter.unusedSimpArgs false
set_option linter.unusedVariables false
theorem mayd_ex {d : Dy} (h : mayd d = true) : 0 ≤ d.ex ∧ d.ex ≤ 1024 := by
  simp only [mayd, mayD, Bool.and_eq_true, decide_eq_true_eq] at h
  exact ⟨h.2.1, h.2.2.1⟩
/-- The bytes of a content. -/
def byP (m : Ml) : List Nat := (flat (conP m)).map Int.toNat
theorem flat_byte : ∀ (ps : List (Nat × Nat)), ∀ b ∈ flat ps, 0 ≤ b ∧ b < 256
  | [], b, h => by simp [flat] at h
  | p :: r, b, h => by
    rw [flat, List.mem_append] at h
    exact h.elim (digs_byte _ _ b) (flat_byte r b)
theorem u8s_bytes {l : List Int} (h : ∀ b ∈ l, 0 ≤ b) : u8s l = bytes (l.map Int.toNat) := by
  unfold u8s bytes
  rw [List.map_map]
  apply List.map_congr_left
  intro b hb
  simp [Int.toNat_of_nonneg (h b hb)]
theorem byP_len (m : Ml) : (byP m).length = total (conP m) := by unfold byP; rw [List.length_map, flat_len]
theorem byP_lt (m : Ml) : ∀ b ∈ byP m, b < 256 := fun b hb => by
  obtain ⟨z, hz, rfl⟩ := List.mem_map.1 hb
  have := flat_byte _ z hz
  omega
theorem conP_total {m : Ml} (h : okL m) : total (conP m) ≤ 400 := by
  obtain ⟨_, hm, hd, _, hl, _⟩ := h
  obtain ⟨m0, m1, m2, m3⟩ := mayM_parts hm
  have l0 := mayd_len m0
  have l1 := mayd_len m1
  have l2 := mayd_len m2
  have l3 := mayd_len m3
  have d1 := (chkD_ok hd).1
  have hh : total (hdP m) = 7 := rfl
  unfold conP
  split
  · simp only [total_app, ptD_total, hh]; omega
  split
  · simp only [total_app, ptD_total, hh]; omega
  split
  · simp only [total_app, total, ptD_total, hh]; omega
  split
  · simp only [total_app, total, hh]; omega
  split
  · simp only [total_app, total, dsP_total, hh]; omega
  · simp only [total_app, total, lsP_total, hh]; omega
end Go.Proofs.Ytjmhefkmpfkpbaa
namespace Go.Proofs.Ytjmhefkmpfkpbaa
open Go.ChangeShapes Go.WideShapes Go.ChangeAt Go.RowKit
set_option linter.unusedSimpArgs false
set_option linter.unusedVariables false
/-- What mail.Write answers. -/
def WrP (m : Ml) (w : World) (en : Ending) (w' : World) : Prop := Below w.heap.size w w' ∧ ((¬ okL m ∧ en = .returned (.tuple #[.slice none 0 0, .int .i64 100])) ∨ (okL m ∧ ∃ v, en = .returned (.tuple #[v, .int .i64 0]) ∧ Owns w w' v (framed m.kd.toNat (byP m))))
set_option maxRecDepth 100000 in
set_option maxHeartbeats 16000000 in
theorem write_any (o : MO) (hsm : smL o.x) (hlt : ltL o.x) (hk0 : 0 ≤ o.x.kd ∧ o.x.kd < 256) (w : World) (hr : rdL w w.heap.size o) : Calls Try.prog 10 #[aggL o] w (WrP o.x w) := by
  obtain ⟨V, hV⟩ : ∃ V, V = w.alloc (.cells #[.int .u8 o.x.kd, .int .i64 o.x.fr, .int .i64 o.x.tt, .int .i64 o.x.ep, .int .i64 o.x.nu, .int .i64 o.x.ab, .bool o.x.give.s.neg, .slice o.X0 o.x.give.s.ls.length o.c0, .int .i64 o.x.give.s.ex, .bool o.x.give.w.neg, .slice o.X1 o.x.give.w.ls.length o.c1, .int .i64 o.x.give.w.ex, .bool o.x.give.c.neg, .slice o.X2 o.x.give.c.ls.length o.c2, .int .i64 o.x.give.c.ex, .bool o.x.give.a.neg, .slice o.X3 o.x.give.a.ls.length o.c3, .int .i64 o.x.give.a.ex, .bool o.x.wa, .slice o.D o.x.ds.length o.dc, .bool o.x.eh, .int .i64 o.x.e1, .int .i64 o.x.e2, .slice o.L o.x.ls.length o.lc] 31) := ⟨_, rfl⟩
  have hB : Below w.heap.size w V := by rw [hV]; exact (Below.refl _ _).alloc (Nat.le_refl _) _
  have ka : Blk V w.heap.size 31 #[.int .u8 o.x.kd, .int .i64 o.x.fr, .int .i64 o.x.tt, .int .i64 o.x.ep, .int .i64 o.x.nu, .int .i64 o.x.ab, .bool o.x.give.s.neg, .slice o.X0 o.x.give.s.ls.length o.c0, .int .i64 o.x.give.s.ex, .bool o.x.give.w.neg, .slice o.X1 o.x.give.w.ls.length o.c1, .int .i64 o.x.give.w.ex, .bool o.x.give.c.neg, .slice o.X2 o.x.give.c.ls.length o.c2, .int .i64 o.x.give.c.ex, .bool o.x.give.a.neg, .slice o.X3 o.x.give.a.ls.length o.c3, .int .i64 o.x.give.a.ex, .bool o.x.wa, .slice o.D o.x.ds.length o.dc, .bool o.x.eh, .int .i64 o.x.e1, .int .i64 o.x.e2, .slice o.L o.x.ls.length o.lc] := by rw [hV]; exact Blk.new w _ _
  have hc := check_any o hsm V (hr.below hB hB.size)
  have hkd : ((o.x.kd.toNat : Nat) : Int) = o.x.kd := by omega
  have hcon : okL o.x → ∀ w', Below w.heap.size w w' → Calls Try.prog 26 #[aggL o] w' fun en w'' => ∃ X c, en = .returned (.slice X (total (conP o.x)) c) ∧ w''.ownsRow w'.heap.size 5 1 (.slice X (total (conP o.x)) c) (total (conP o.x)) (u8s (flat (conP o.x))) ∧ Below w'.heap.size w' w'' := fun hok w' hw => content_any o hok hlt w' (hr.below hw hw.size)
  unfold aggL at hc hcon ⊢
  have gkd := Lib.hid hkd
  clear hkd hsm hlt hr
  go_enter Try.func10, Try.ntmps10
  go_upto_region 1 with (fail)
  rw [← hV]
  clear hV
  go_wp2_with (refine wpList_load_row rfl 31 _ rfl w.heap.size rfl 31 #[.int .u8 o.x.kd, .int .i64 o.x.fr, .int .i64 o.x.tt, .int .i64 o.x.ep, .int .i64 o.x.nu, .int .i64 o.x.ab, .bool o.x.give.s.neg, .slice o.X0 o.x.give.s.ls.length o.c0, .int .i64 o.x.give.s.ex, .bool o.x.give.w.neg, .slice o.X1 o.x.give.w.ls.length o.c1, .int .i64 o.x.give.w.ex, .bool o.x.give.c.neg, .slice o.X2 o.x.give.c.ls.length o.c2, .int .i64 o.x.give.c.ex, .bool o.x.give.a.neg, .slice o.X3 o.x.give.a.ls.length o.c3, .int .i64 o.x.give.a.ex, .bool o.x.wa, .slice o.D o.x.ds.length o.dc, .bool o.x.eh, .int .i64 o.x.e1, .int .i64 o.x.e2, .slice o.L o.x.ls.length o.lc] (0, 0) _ ka.row Try.underlying31 rfl (by kernel_rfl) ?_)
  refine hc.mono ?_
  rintro en w1 ⟨E, rfl, ⟨hok, rfl⟩ | ⟨hno, rfl⟩, hb1⟩
  rotate_left
  · have gno := Lib.hid hno
    have hB1 := hB.trans (hb1.mono hB.size)
    clear hcon hc ka hno hk0
    go_wp2
    go_ret2
    exact ⟨hB1, .inl ⟨gno.out, rfl⟩⟩
  replace hcon := hcon hok
  have hB1 := hB.trans (hb1.mono hB.size)
  have k1 := ka.below hb1 ka.lt
  have k2 : Blk w1.drew w.heap.size 31 #[.int .u8 o.x.kd, .int .i64 o.x.fr, .int .i64 o.x.tt, .int .i64 o.x.ep, .int .i64 o.x.nu, .int .i64 o.x.ab, .bool o.x.give.s.neg, .slice o.X0 o.x.give.s.ls.length o.c0, .int .i64 o.x.give.s.ex, .bool o.x.give.w.neg, .slice o.X1 o.x.give.w.ls.length o.c1, .int .i64 o.x.give.w.ex, .bool o.x.give.c.neg, .slice o.X2 o.x.give.c.ls.length o.c2, .int .i64 o.x.give.c.ex, .bool o.x.give.a.neg, .slice o.X3 o.x.give.a.ls.length o.c3, .int .i64 o.x.give.a.ex, .bool o.x.wa, .slice o.D o.x.ds.length o.dc, .bool o.x.eh, .int .i64 o.x.e1, .int .i64 o.x.e2, .slice o.L o.x.ls.length o.lc] := k1.drew
  have hB2 : Below w.heap.size w w1.drew := hB1.drew
  clear hc ka hb1
  go_upto_region 4 with (fail)
  have hkd := gkd.out
  refine wp_region_noPanic ?_
  refine wp_region_held_drew (S := fun w' => w'.cell? ⟨w.heap.size, 0, none⟩ = some (.int .u8 o.x.kd) ∧ w'.rangeAt w.heap.size 0 [.int .u8 o.x.kd, .int .i64 o.x.fr, .int .i64 o.x.tt, .int .i64 o.x.ep, .int .i64 o.x.nu, .int .i64 o.x.ab, .bool o.x.give.s.neg, .slice o.X0 o.x.give.s.ls.length o.c0, .int .i64 o.x.give.s.ex, .bool o.x.give.w.neg, .slice o.X1 o.x.give.w.ls.length o.c1, .int .i64 o.x.give.w.ex, .bool o.x.give.c.neg, .slice o.X2 o.x.give.c.ls.length o.c2, .int .i64 o.x.give.c.ex, .bool o.x.give.a.neg, .slice o.X3 o.x.give.a.ls.length o.c3, .int .i64 o.x.give.a.ex, .bool o.x.wa, .slice o.D o.x.ds.length o.dc, .bool o.x.eh, .int .i64 o.x.e1, .int .i64 o.x.e2, .slice o.L o.x.ls.length o.lc]) (by kernel_rfl) (⟨by rw [k2.cell]; rfl, k2.range 0 _ rfl⟩) (fun hHeld => ?_)
  refine tkY 0 (h := ?_)
  (try simp only [Act.put, lsA, lsZ, lsS])
  refine tkY 1 (h := ?_)
  (try simp only [Act.put, lsA, lsZ, lsS])
  refine wpAnyH_take (i := 2) (oi := ?o2) (v := .agg ([.int .u8 o.x.kd, .int .i64 o.x.fr, .int .i64 o.x.tt, .int .i64 o.x.ep, .int .i64 o.x.nu, .int .i64 o.x.ab, .bool o.x.give.s.neg, .slice o.X0 o.x.give.s.ls.length o.c0, .int .i64 o.x.give.s.ex, .bool o.x.give.w.neg, .slice o.X1 o.x.give.w.ls.length o.c1, .int .i64 o.x.give.w.ex, .bool o.x.give.c.neg, .slice o.X2 o.x.give.c.ls.length o.c2, .int .i64 o.x.give.c.ex, .bool o.x.give.a.neg, .slice o.X3 o.x.give.a.ls.length o.c3, .int .i64 o.x.give.a.ex, .bool o.x.wa, .slice o.D o.x.ds.length o.dc, .bool o.x.eh, .int .i64 o.x.e1, .int .i64 o.x.e2, .slice o.L o.x.ls.length o.lc] : List Value).toArray) ?ho2 (by kernel_rfl) (by kernel_rfl) (by kernel_rfl) (fun _ _ _ h => h) (yieldsIf_load_mid ?wn2 31 (.tmp 1) ?on2 w.heap.size 0 ?xn2 [.int .u8 o.x.kd, .int .i64 o.x.fr, .int .i64 o.x.tt, .int .i64 o.x.ep, .int .i64 o.x.nu, .int .i64 o.x.ab, .bool o.x.give.s.neg, .slice o.X0 o.x.give.s.ls.length o.c0, .int .i64 o.x.give.s.ex, .bool o.x.give.w.neg, .slice o.X1 o.x.give.w.ls.length o.c1, .int .i64 o.x.give.w.ex, .bool o.x.give.c.neg, .slice o.X2 o.x.give.c.ls.length o.c2, .int .i64 o.x.give.c.ex, .bool o.x.give.a.neg, .slice o.X3 o.x.give.a.ls.length o.c3, .int .i64 o.x.give.a.ex, .bool o.x.wa, .slice o.D o.x.ds.length o.dc, .bool o.x.eh, .int .i64 o.x.e1, .int .i64 o.x.e2, .slice o.L o.x.ls.length o.lc] _ (fun w h => h.2) Try.underlying31 rfl (by kernel_rfl)) (by assumption) ?rest2
  case ho2 => (simp only [lgA, lgZ, lgS]; rfl)
  case on2 => rfl
  case wn2 => rfl
  case xn2 => rfl
  (try simp only [Act.put, lsA, lsZ, lsS])
  refine tkR 3 (h := fun K hK => ?_)
  go_simp
  with_reducible refine (hcon _ (by assumption)).mono ?_
  rintro en w3 ⟨X, cx, rfl, ho, hb3⟩
  have k3 := k2.below hb3 k2.lt
  have hp := fput_ok o.x.kd.toNat (by omega) X cx (byP o.x) (byP_lt _) (by rw [byP_len]; have := conP_total hok; omega) w3 (by rw [byP_len, show bytes (byP o.x) = u8s (flat (conP o.x)) from (u8s_bytes (fun b hb => (flat_byte _ b hb).1)).symm]; exact Reads.of_own ho)
  rw [byP_len, hkd] at hp
  have ghb3 := Lib.hid hb3
  clear ho hb3
  refine hK.out _ _ (⟨by rw [k3.cell]; rfl, k3.range 0 _ rfl⟩) (fun hHeld => ?_)
  clear hK K
  (try simp only [Act.put, lsA, lsZ, lsS])
  refine tkR 4 (h := fun K hK => ?_)
  go_simp
  with_reducible refine hp.mono ?_
  rintro en w4 ⟨v4, rfl, ho4, hb4⟩
  have k4 := k3.below hb4 k3.lt
  have gho4 := Lib.hid ho4
  have ghb4 := Lib.hid hb4
  clear ho4 hb4 hp
  refine hK.out _ _ (⟨by rw [k4.cell]; rfl, k4.range 0 _ rfl⟩) (fun hHeld => ?_)
  clear hK K
  (try simp only [Act.put, lsA, lsZ, lsS])
  refine tkY 5 (h := ?_)
  (try simp only [Act.put, lsA, lsZ, lsS])
  refine tkY 6 (h := ?_)
  (try simp only [Act.put, lsA, lsZ, lsS])
  refine tkY 7 (h := ?_)
  (try simp only [Act.put, lsA, lsZ, lsS])
  refine tkY 8 (h := ?_)
  (try simp only [Act.put, lsA, lsZ, lsS])
  refine wpAnyH_done (by kernel_rfl) ?_ _
  refine NoPanic.normal ?_
  have gB4 := Lib.hid ((hB2.trans (ghb3.out.mono hB2.size)).trans (ghb4.out.mono (Nat.le_trans hB2.size ghb3.out.size)))
  have gow : Hid (Owns w w4 v4 (framed o.x.kd.toNat (byP o.x))) := Lib.hid (own_mono gho4.out (Nat.le_trans hB2.size ghb3.out.size))
  have gok := Lib.hid hok
  clear hkd k1 k2 k3 k4 hcon hok hB hB1 hB2 ghb3 ghb4 gho4 gkd hk0
  go_wp2
  go_ret2
  exact ⟨gB4.out, .inr ⟨gok.out, v4, rfl, gow.out⟩⟩
end Go.Proofs.Ytjmhefkmpfkpbaa
namespace Go.Proofs.Ytjmhefkmpfkpbaa
open Go.ChangeShapes Go.WideShapes Go.ChangeAt Go.RowKit
set_option linter.unusedSimpArgs false
set_option linter.unusedVariables false
/-- Is a mail more than statements go through? -/
def grL (m : Ml) : Bool := grM m.give.s.ls.length m.give.s.ex m.give.w.ls.length m.give.w.ex m.give.c.ls.length m.give.c.ex m.give.a.ls.length m.give.a.ex || decide (70 < m.ds.length) || decide (70 < m.ls.length)
theorem grL_sm {m : Ml} (h : grL m = false) : smL m := by
  simp only [grL, grM, grD, Bool.or_eq_false_iff, decide_eq_false_iff_not] at h
  obtain ⟨⟨⟨⟨⟨⟨h0, _⟩, ⟨h1, _⟩⟩, ⟨h2, _⟩⟩, ⟨h3, _⟩⟩, h4⟩, h5⟩ := h
  exact ⟨⟨by omega, by omega, by omega, by omega⟩, by omega, by omega⟩
set_option maxRecDepth 100000 in
set_option maxHeartbeats 16000000 in
theorem lgreat_any (o : MO) (w : World) (R : Bool) (hR : grL o.x = R) : Calls Try.prog 9 #[aggL o] w fun en w' => en = .returned (.bool R) ∧ Below w.heap.size w w' := by
  obtain ⟨V, hV⟩ : ∃ V, V = w.alloc (.cells #[.int .u8 o.x.kd, .int .i64 o.x.fr, .int .i64 o.x.tt, .int .i64 o.x.ep, .int .i64 o.x.nu, .int .i64 o.x.ab, .bool o.x.give.s.neg, .slice o.X0 o.x.give.s.ls.length o.c0, .int .i64 o.x.give.s.ex, .bool o.x.give.w.neg, .slice o.X1 o.x.give.w.ls.length o.c1, .int .i64 o.x.give.w.ex, .bool o.x.give.c.neg, .slice o.X2 o.x.give.c.ls.length o.c2, .int .i64 o.x.give.c.ex, .bool o.x.give.a.neg, .slice o.X3 o.x.give.a.ls.length o.c3, .int .i64 o.x.give.a.ex, .bool o.x.wa, .slice o.D o.x.ds.length o.dc, .bool o.x.eh, .int .i64 o.x.e1, .int .i64 o.x.e2, .slice o.L o.x.ls.length o.lc] 31) := ⟨_, rfl⟩
  have hB : Below w.heap.size w V := by rw [hV]; exact (Below.refl _ _).alloc (Nat.le_refl _) _
  have ka : Blk V w.heap.size 31 #[.int .u8 o.x.kd, .int .i64 o.x.fr, .int .i64 o.x.tt, .int .i64 o.x.ep, .int .i64 o.x.nu, .int .i64 o.x.ab, .bool o.x.give.s.neg, .slice o.X0 o.x.give.s.ls.length o.c0, .int .i64 o.x.give.s.ex, .bool o.x.give.w.neg, .slice o.X1 o.x.give.w.ls.length o.c1, .int .i64 o.x.give.w.ex, .bool o.x.give.c.neg, .slice o.X2 o.x.give.c.ls.length o.c2, .int .i64 o.x.give.c.ex, .bool o.x.give.a.neg, .slice o.X3 o.x.give.a.ls.length o.c3, .int .i64 o.x.give.a.ex, .bool o.x.wa, .slice o.D o.x.ds.length o.dc, .bool o.x.eh, .int .i64 o.x.e1, .int .i64 o.x.e2, .slice o.L o.x.ls.length o.lc] := by rw [hV]; exact Blk.new w _ _
  obtain ⟨q0, hq0⟩ : ∃ q, grM o.x.give.s.ls.length o.x.give.s.ex o.x.give.w.ls.length o.x.give.w.ex o.x.give.c.ls.length o.x.give.c.ex o.x.give.a.ls.length o.x.give.a.ex = q := ⟨_, rfl⟩
  have hc := mgreat_any o.x.give.s.neg o.X0 o.x.give.s.ls.length o.c0 o.x.give.s.ex o.x.give.w.neg o.X1 o.x.give.w.ls.length o.c1 o.x.give.w.ex o.x.give.c.neg o.X2 o.x.give.c.ls.length o.c2 o.x.give.c.ex o.x.give.a.neg o.X3 o.x.give.a.ls.length o.c3 o.x.give.a.ex q0 hq0 V
  unfold grL at hR
  rw [hq0] at hR
  clear hq0
  obtain ⟨q1, hq1⟩ : ∃ q, decide (70 < o.x.ds.length) = q := ⟨_, rfl⟩
  obtain ⟨q2, hq2⟩ : ∃ q, decide (70 < o.x.ls.length) = q := ⟨_, rfl⟩
  have x1 : decide ((70 : Int) < (o.x.ds.length : Int)) = q1 := by rw [← hq1]; congr 1; simp only [eq_iff_iff]; omega
  have x2 : decide ((70 : Int) < (o.x.ls.length : Int)) = q2 := by rw [← hq2]; congr 1; simp only [eq_iff_iff]; omega
  rw [hq1, hq2] at hR
  subst hR
  have gka := Lib.hid ka
  obtain ⟨n1, hn1⟩ : ∃ n, o.x.ds.length = n := ⟨_, rfl⟩
  obtain ⟨n2, hn2⟩ : ∃ n, o.x.ls.length = n := ⟨_, rfl⟩
  have rg := ka.range 6 [.bool o.x.give.s.neg, .slice o.X0 o.x.give.s.ls.length o.c0, .int .i64 o.x.give.s.ex, .bool o.x.give.w.neg, .slice o.X1 o.x.give.w.ls.length o.c1, .int .i64 o.x.give.w.ex, .bool o.x.give.c.neg, .slice o.X2 o.x.give.c.ls.length o.c2, .int .i64 o.x.give.c.ex, .bool o.x.give.a.neg, .slice o.X3 o.x.give.a.ls.length o.c3, .int .i64 o.x.give.a.ex] rfl
  unfold aggL
  rw [hn1] at x1 gka
  rw [hn2] at x2 gka
  clear hq1 hq2 ka
  rw [hn1, hn2] at hV ⊢
  clear hn1 hn2
  cases q0 <;> cases q1 <;> cases q2
  all_goals
    go_enter Try.func9, Try.ntmps9
    go_upto_region 1 with (fail)
    rw [← hV]
    clear hV
    go_wp2_with (refine wpList_load_mid rfl 26 _ rfl w.heap.size 6 rfl [.bool o.x.give.s.neg, .slice o.X0 o.x.give.s.ls.length o.c0, .int .i64 o.x.give.s.ex, .bool o.x.give.w.neg, .slice o.X1 o.x.give.w.ls.length o.c1, .int .i64 o.x.give.w.ex, .bool o.x.give.c.neg, .slice o.X2 o.x.give.c.ls.length o.c2, .int .i64 o.x.give.c.ex, .bool o.x.give.a.neg, .slice o.X3 o.x.give.a.ls.length o.c3, .int .i64 o.x.give.a.ex] _ rg Try.underlying26 rfl (by kernel_rfl) ?_)
    refine hc.mono ?_
    rintro en w1 ⟨rfl, hb1⟩
    have k1 := gka.out.below hb1 gka.out.lt
    have c1 : w1.cell? ⟨w.heap.size, 19, none⟩ = some (.slice o.D n1 o.dc) := by rw [k1.cell]; rfl
    have c2 : w1.cell? ⟨w.heap.size, 23, none⟩ = some (.slice o.L n2 o.lc) := by rw [k1.cell]; rfl
    have hB1 := hB.trans (hb1.mono hB.size)
    clear hb1 k1 gka rg hc
    go_wp2
    go_ret
    exact ⟨rfl, hB1⟩
end Go.Proofs.Ytjmhefkmpfkpbaa
namespace Go.Proofs.Ytjmhefkmpfkpbaa
open Go.ChangeShapes Go.WideShapes Go.ChangeAt Go.RowKit
set_option linter.unusedSimpArgs false
set_option linter.unusedVariables false
theorem framed_lt {k : Nat} {l : List Nat} (hk : k < 256) (hm : l.length ≤ 4096) (hl : ∀ b ∈ l, b < 256) : ∀ b ∈ framed k l, b < 256 := fun b hb => by
  unfold framed at hb
  rcases List.mem_append.1 hb with h | h
  · exact headed_lt hk hm hl b h
  · exact told_lt (crc_lt _) b h
end Go.Proofs.Ytjmhefkmpfkpbaa
namespace Go.Proofs.Ytjmhefkmpfkpbaa
open Go.ChangeShapes Go.WideShapes Go.ChangeAt Go.RowKit
set_option linter.unusedSimpArgs false
set_option linter.unusedVariables false
/-- The dyad that lies at a place. -/
def dyO (l : List Int) (p : Nat) : Dy := ⟨vN l p == 1, (limbsOf l p (vM l p)).map Int.toNat, vX l p⟩
/-- The next dyad, and what is left. -/
def rD (l : List Int) (st : Option Nat) : Option Nat × Dy :=
  match st with
  | none => (none, ⟨false, [], 0⟩)
  | some p => if dyE l (p : Int) = 0 then (some (p + 4 + 4 * vM l p), dyO l p) else (none, ⟨false, [], 0⟩)
def RdyP (w : World) (g : Nat) (A : Option Addr) (n c : Nat) (st : Option Nat) (d : Dy) (en : Ending) (w' : World) : Prop := ∃ X cc, en = .returned (.agg #[.bool d.neg, .slice X d.ls.length cc, .int .i64 d.ex]) ∧ d.ls.length ≤ cc ∧ OwnR w' w.heap.size 52 X d.ls.length (ints .u32 d.ls) ∧ Rdb w' g A n c st ∧ Only g w w'
set_option maxRecDepth 100000 in
set_option maxHeartbeats 8000000 in
theorem rdy_none (g n c : Nat) (A : Option Addr) (w : World) (hk : Blk w g 69 #[.slice none 0 0, .int .i64 0, .bool true]) : Calls Try.prog 34 #[.pointer (some ⟨g, 0, none⟩)] w (RdyP w g A n c none ⟨false, [], 0⟩) := by
  obtain ⟨V, hV⟩ : ∃ V, V = w.alloc (.cells #[.bool false, .slice none 0 0, .int .i64 0] 24) := ⟨_, rfl⟩
  have hB : Below w.heap.size w V := by rw [hV]; exact (Below.refl _ _).alloc (Nat.le_refl _) _
  have kb : Blk V w.heap.size 24 #[.bool false, .slice none 0 0, .int .i64 0] := by rw [hV]; exact Blk.new _ _ _
  have k1 := hk.below hB hk.lt
  have hlt := hk.lt
  have a2 := k1.cell 2
  simp only [lgA, lgZ, lgS] at a2
  have kf := kb.setRow #[.bool false, .slice none 0 0, .int .i64 0]
  have k2 := k1.setRow_far (k := w.heap.size) (by omega) #[.bool false, .slice none 0 0, .int .i64 0]
  have hO : Only g w (V.setRow w.heap.size #[.bool false, .slice none 0 0, .int .i64 0]) := Only.of_below (below_setRow (g := w.heap.size) hB (Nat.le_refl _) _)
  go_enter Try.func34, Try.ntmps34
  go_upto_region 1 with (fail)
  rw [← hV]
  clear hV
  go_wp2_with (refine wpList_store_row rfl 24 _ _ rfl w.heap.size #[.bool false, .slice none 0 0, .int .i64 0] rfl rfl 24 #[.bool false, .slice none 0 0, .int .i64 0] kb.row (by kernel_rfl) rfl (by simp [Value.oneCell']) ?_)
  (try simp only [Exit.inBlock, Exit.then])
  refine bodyPost_ret (results_cell_row rfl _ _ w.heap.size 24 #[.bool false, .slice none 0 0, .int .i64 0] (0, 0) _ rfl kf.row Try.underlying24 rfl (by kernel_rfl)) rfl ?_
  exact ⟨none, 0, rfl, Nat.le_refl _, OwnR.none_, k2, hO⟩
set_option maxRecDepth 100000 in
set_option maxHeartbeats 8000000 in
theorem rdy_some (g : Nat) (A : Option Addr) (n c p : Nat) (st : Option Nat) (E : Int) (R : Value) (A2 : Option Addr) (n2 c2 : Nat) (p2 : Int) (W2 : Bool) (hW2 : (E != 0) = W2) (hR : R = .agg #[.slice A2 n2 c2, .int .i64 p2]) (hst : ∀ w', Blk w' g 69 #[.slice A2 n2 c2, .int .i64 p2, .bool W2] → Rdb w' g A n c st)
    (d : Dy) (hsm : d.ls.length ≤ 100000) (w : World) (hk : Blk w g 69 #[.slice A n c, .int .i64 (p : Int), .bool false])
    (hc : ∀ V, Below w.heap.size w V → Calls Try.prog 68 #[.agg #[.slice A n c, .int .i64 (p : Int)]] V fun en w' => (∃ Al cl, en = .returned (.tuple #[R, .agg #[.bool d.neg, .slice Al d.ls.length cl, .int .i64 d.ex], .int .i64 E]) ∧ OwnR w' V.heap.size 52 Al d.ls.length (ints .u32 d.ls)) ∧ Below V.heap.size V w') :
    Calls Try.prog 34 #[.pointer (some ⟨g, 0, none⟩)] w (RdyP w g A n c st d) := by
  subst hR
  obtain ⟨V, hV⟩ : ∃ V, V = w.alloc (.cells #[.bool false, .slice none 0 0, .int .i64 0] 24) := ⟨_, rfl⟩
  have hB : Below w.heap.size w V := by rw [hV]; exact (Below.refl _ _).alloc (Nat.le_refl _) _
  have kb : Blk V w.heap.size 24 #[.bool false, .slice none 0 0, .int .i64 0] := by rw [hV]; exact Blk.new _ _ _
  have k1 := hk.below hB hk.lt
  have hlt := hk.lt
  have a0 := k1.cell 0
  have a1 := k1.cell 1
  have a2 := k1.cell 2
  simp only [lgA, lgZ, lgS] at a0 a1 a2
  have hc' := hc V hB
  clear hc
  have hVs : w.heap.size < V.heap.size := kb.lt
  go_enter Try.func34, Try.ntmps34
  go_upto_region 1 with (fail)
  rw [← hV]
  clear hV
  go_wp2_with fail
  refine hc'.mono ?_
  rintro en w1 ⟨⟨Al, cl, rfl, hrd⟩, hb1⟩
  have s1 := hb1.size
  obtain ⟨U, hU⟩ : ∃ U, U = (w1.alloc (.cells #[.slice A2 n2 c2, .int .i64 p2] 67)).alloc (.cells #[.bool d.neg, .slice Al d.ls.length cl, .int .i64 d.ex] 24) := ⟨_, rfl⟩
  have hbU : Below w1.heap.size w1 U := by rw [hU]; exact ((Below.refl _ _).alloc (Nat.le_refl _) _).alloc (by simp) _
  have ku : Blk U w1.heap.size 67 #[.slice A2 n2 c2, .int .i64 p2] := by rw [hU]; exact (Blk.new _ _ _).alloc _
  have kd : Blk U (w1.heap.size + 1) 24 #[.bool d.neg, .slice Al d.ls.length cl, .int .i64 d.ex] := by rw [hU]; simpa using Blk.new (w1.alloc (.cells #[.slice A2 n2 c2, .int .i64 p2] 67)) 24 #[.bool d.neg, .slice Al d.ls.length cl, .int .i64 d.ex]
  have k2 := (k1.below hb1 k1.lt).below hbU (Nat.lt_of_lt_of_le k1.lt hb1.size)
  have kb2 := (kb.below hb1 kb.lt).below hbU (Nat.lt_of_lt_of_le kb.lt hb1.size)
  have gr := Lib.hid (hrd.below hbU)
  have gO := Lib.hid ((Only.of_below (g := g) hB).trans ((Only.of_below hb1).trans (Only.of_below hbU)))
  go_upto_region 4 with (fail)
  rw [← hU]
  have sU := hbU.size
  clear hU hbU hrd hb1 a0 a1 a2 k1 kb hc' hB
  have b0 := k2.cell 0
  have b1 := k2.cell 1
  have b2 := k2.cell 2
  have bf0 := k2.frozen 0
  have bf1 := k2.frozen 1
  have bf2 := k2.frozen 2
  have u0 := ku.cell 0
  have u1 := ku.cell 1
  simp only [lgA, lgZ, lgS] at b0 b1 b2 u0 u1
  obtain ⟨X3, hX3⟩ : ∃ X, X = ((U.setCell ⟨g, 0, none⟩ (.slice A2 n2 c2)).setCell ⟨g, 1, none⟩ (.int .i64 p2)).setCell ⟨g, 2, none⟩ (.bool W2) := ⟨_, rfl⟩
  have kr3 : Blk X3 g 69 #[.slice A2 n2 c2, .int .i64 p2, .bool W2] := by
    have k3 := ((k2.set_ 0 (.slice A2 n2 c2)).set_ 1 (.int .i64 p2)).set_ 2 (.bool W2)
    simp at k3
    rw [hX3]; exact k3
  have kd3 : Blk X3 (w1.heap.size + 1) 24 #[.bool d.neg, .slice Al d.ls.length cl, .int .i64 d.ex] := by rw [hX3]; exact ((kd.far (p := ⟨g, 0, none⟩) (by show w1.heap.size + 1 ≠ g; omega) _).far (p := ⟨g, 1, none⟩) (by show w1.heap.size + 1 ≠ g; omega) _).far (p := ⟨g, 2, none⟩) (by show w1.heap.size + 1 ≠ g; omega) _
  have kb3 : Blk X3 w.heap.size 24 #[.bool false, .slice none 0 0, .int .i64 0] := by rw [hX3]; exact ((kb2.far (p := ⟨g, 0, none⟩) (by show w.heap.size ≠ g; omega) _).far (p := ⟨g, 1, none⟩) (by show w.heap.size ≠ g; omega) _).far (p := ⟨g, 2, none⟩) (by show w.heap.size ≠ g; omega) _
  have hO3 : Only g w X3 := by rw [hX3]; exact ((gO.out.trans (Only.set_ _ _ _ _)).trans (Only.set_ _ _ _ _)).trans (Only.set_ _ _ _ _)
  have s3 : X3.heap.size = U.heap.size := by rw [hX3]; simp
  have hr3 : Reads X3 X3.heap.size 1 Al d.ls.length (ints .u32 d.ls) := by rw [hX3]; exact (((gr.out.far (p := ⟨g, 0, none⟩) (by show g < V.heap.size; omega) _).far (p := ⟨g, 1, none⟩) (by show g < V.heap.size; omega) _).far (p := ⟨g, 2, none⟩) (by show g < V.heap.size; omega) _).reads
  have ht := dtwin_any d.neg Al d.ls.length cl d.ex d.ls rfl hsm X3 hr3
  clear k2 kd kb2 ku
  go_upto_region 5 with (fail)
  rw [← hX3]
  have d0 := kd3.cell 0
  have d1 := kd3.cell 1
  have d2 := kd3.cell 2
  simp only [lgA, lgZ, lgS] at d0 d1 d2
  have gk3 := Lib.hid kr3
  have gb3 := Lib.hid kb3
  have gO3 := Lib.hid hO3
  clear hX3 kd3 kr3 kb3 hO3 hr3 gr gO b0 b1 b2 bf0 bf1 bf2 u0 u1
  go_wp2_with fail
  refine ht.mono ?_
  rintro en w5 ⟨Ao, co, rfl, hco, ho5, hb5⟩
  have k5 := gb3.out.below hb5 gb3.out.lt
  have kf := k5.setRow #[.bool d.neg, .slice Ao d.ls.length co, .int .i64 d.ex]
  have gk5 := Lib.hid ((gk3.out.below hb5 gk3.out.lt).setRow_far (k := w.heap.size) (by omega) #[.bool d.neg, .slice Ao d.ls.length co, .int .i64 d.ex])
  have hz : X3.heap.size ≤ w5.heap.size := hb5.size
  have gO5 : Hid (Only g w (w5.setRow w.heap.size #[.bool d.neg, .slice Ao d.ls.length co, .int .i64 d.ex])) := Lib.hid ⟨(below_setRow (g := w.heap.size) ((gO3.out.trans (Only.of_below hb5)).1) (Nat.zero_le _) _), fun b hb1 hb2 => by rw [setRow_other _ _ _ _ (by omega)]; exact (gO3.out.trans (Only.of_below hb5)).2 b hb1 hb2⟩
  have gow : Hid (OwnR (w5.setRow w.heap.size #[.bool d.neg, .slice Ao d.ls.length co, .int .i64 d.ex]) w.heap.size 52 Ao d.ls.length (ints .u32 d.ls)) := Lib.hid ⟨ho5.1, fun h0 => by
    obtain ⟨g', cur, e1, e2, e3, e4⟩ := ho5.2 h0
    exact ⟨g', cur, e1, by omega, Blk.setRow_far e3 (by omega) _, e4⟩⟩
  clear ht d0 d1 d2 hb5 ho5 gk3 gb3 gO3
  go_wp2_with (refine wpList_store_row rfl 24 _ _ rfl w.heap.size #[.bool d.neg, .slice Ao d.ls.length co, .int .i64 d.ex] rfl rfl 24 #[.bool false, .slice none 0 0, .int .i64 0] k5.row (by kernel_rfl) rfl (by simp [Value.oneCell']) ?_)
  (try simp only [Exit.inBlock, Exit.then])
  refine bodyPost_ret (results_cell_row rfl _ _ w.heap.size 24 #[.bool d.neg, .slice Ao d.ls.length co, .int .i64 d.ex] (0, 0) _ rfl kf.row Try.underlying24 rfl (by kernel_rfl)) rfl ?_
  exact ⟨Ao, co, rfl, hco, gow.out, hst _ gk5.out, gO5.out⟩
theorem rD_lt {l : List Int} (hb : ∀ b ∈ l, 0 ≤ b ∧ b < 256) (st : Option Nat) : (rD l st).2.ls.length ≤ 255 ∧ ∀ x ∈ (rD l st).2.ls, x < 4294967296 := by
  unfold rD
  cases st with
  | none => exact ⟨by simp, by simp⟩
  | some q =>
    simp only
    split
    · refine ⟨?_, fun x hx => ?_⟩
      · simp only [dyO, List.length_map, limbs_len]
        have := part_range hb (q + 3) 1
        unfold vM
        omega
      · simp only [dyO, limbsOf, List.mem_map, List.mem_range] at hx
        obtain ⟨z, ⟨k, _, rfl⟩, rfl⟩ := hx
        have := part_range hb (q + 4 + 4 * k) 4
        unfold limbAt
        omega
    · exact ⟨by simp, by simp⟩
theorem rdy_any (g : Nat) (A : Option Addr) (n c : Nat) (l : List Int) (hn : l.length = n) (hb : ∀ b ∈ l, 0 ≤ b ∧ b < 256) (hm : n ≤ 100000) (hnc : n ≤ c) (st : Option Nat) (w : World) (hk : Rdb w g A n c st) (hR : Reads w w.heap.size 1 A n (u8s l)) :
    Calls Try.prog 34 #[.pointer (some ⟨g, 0, none⟩)] w (RdyP w g A n c (rD l st).1 (rD l st).2) := by
  cases st with
  | none => exact rdy_none g n c A w hk
  | some p =>
    have hlt := rD_lt hb (some p)
    by_cases hE : dyE l (p : Int) = 0
    · have e : rD l (some p) = (some (p + 4 + 4 * vM l p), dyO l p) := if_pos hE
      rw [e] at hlt ⊢
      refine rdy_some g A n c p (some (p + 4 + 4 * vM l p)) 0 _ A n c ((p : Int) + 4 + 4 * (vM l p : Int)) false rfl rfl (fun w' h => ?_) (dyO l p) (by have := hlt.1; simp only at this; omega) w hk (fun V hV => ?_)
      · show Blk w' g _ #[.slice A n c, .int .i64 ((p + 4 + 4 * vM l p : Nat) : Int), .bool false]
        rw [show ((p + 4 + 4 * vM l p : Nat) : Int) = (p : Int) + 4 + 4 * (vM l p : Int) by omega]
        exact h
      · refine (dyad_any A n c l hn hb hm hnc p 0 hE V ((hR.below hV).more hV.size)).mono ?_
        rintro en w' ⟨hb', ⟨h0, _⟩ | ⟨_, Al, cl, rfl, ho⟩⟩
        · exact absurd h0 (by decide)
        · have hlen : (dyO l p).ls.length = vM l p := by simp [dyO, limbs_len]
          have hu : u32s (limbsOf l p (vM l p)) = ints .u32 (dyO l p).ls := by
            unfold u32s dyO
            refine ints_of (fun z hz => ?_)
            simp only [limbsOf, List.mem_map, List.mem_range] at hz
            obtain ⟨k, _, rfl⟩ := hz
            exact (part_range hb (p + 4 + 4 * k) 4).1
          simp only [Int.toNat_natCast] at ho ⊢
          refine ⟨⟨Al, cl, by rw [hlen]; rfl, ?_⟩, hb'⟩
          rw [← hu, hlen]
          exact OwnR.of_row ho
    · have e : rD l (some p) = (none, ⟨false, [], 0⟩) := if_neg hE
      rw [e]
      refine rdy_some g A n c p none (dyE l p) _ none 0 0 0 true (by simpa using hE) rfl (fun w' h => h) ⟨false, [], 0⟩ (by simp) w hk (fun V hV => ?_)
      refine (dyad_any A n c l hn hb hm hnc p _ rfl V ((hR.below hV).more hV.size)).mono ?_
      rintro en w' ⟨hb', ⟨_, rfl⟩ | ⟨h0, _⟩⟩
      · exact ⟨⟨none, 0, rfl, OwnR.none_⟩, hb'⟩
      · exact absurd h0 hE
end Go.Proofs.Ytjmhefkmpfkpbaa
