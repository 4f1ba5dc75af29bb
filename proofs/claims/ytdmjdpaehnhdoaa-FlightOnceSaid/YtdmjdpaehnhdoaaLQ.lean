/- Flight: Double -/
import Derived.Test.YtdmjdpaehnhdoaaLE
import Derived.Test.YtdmjdpaehnhdoaaLP
namespace Go.Proofs.Ytdmjdpaehnhdoaa
open Go.ChangeShapes Go.WideShapes Go.ChangeAt Go.RowKit
set_option linter.unusedSimpArgs false
set_option linter.unusedVariables false
/-- One more copy of a load, in a row of one's own. -/
theorem accE_copies {w : World} {base g n c k : Nat} {l : List En} {x : En} (h : AccE w base (.slice (some ⟨g, 0, none⟩) n c) n l) (hk : l[k]? = some x) (q : Int) : AccE (w.setCell ⟨g, k * 15 + 2, none⟩ (.int .i64 q)) base (.slice (some ⟨g, 0, none⟩) n c) n (l.set k { x with cp := q }) := by
  obtain ⟨os, e, ho, ht⟩ := h
  have hol : os.length = l.length := by rw [← e, List.length_map]
  have hkl : k < l.length := (List.getElem?_eq_some_iff.1 hk).1
  obtain ⟨o, hok⟩ : ∃ o, os[k]? = some o := ⟨_, List.getElem?_eq_getElem (by omega)⟩
  have hox : o.x = x := by
    rw [← e, List.getElem?_map, hok] at hk
    injection hk
  have hfl := flat15_len os
  have hn := ho.1
  have hlen : os.length = n := by omega
  obtain ⟨g', cap, cur, hv, hbg, hh, hnc, hcm, hcs, htk⟩ : ∃ g' cap cur, (Value.slice (some ⟨g, 0, none⟩) n c) = .slice (some ⟨g', 0, none⟩) n cap ∧ base ≤ g' ∧ Blk w g' 40 cur ∧ n ≤ cap ∧ cap ≤ maxLen ∧ cur.size = cap * 15 ∧ cur.toList.take (n * 15) = os.flatMap row15 := by
    rcases ho.2 with ⟨h0, h⟩ | ⟨g', cap, cur, h1, h2, h3, h4, h5, h6, h7⟩
    · cases h0
    · exact ⟨g', cap, cur, h1, h2, h3, h4, h5, h6, h7⟩
  injection hv with hA _ hcc
  injection hA with hA
  injection hA with hA
  subst hA hcc
  have hs := row_step (n := n) (j := 2) (q := k * 15 + 2) (o' := { o with x := { x with cp := q } }) (v := .int .i64 q) ⟨hh, htk, hok⟩ (by subst hox; rfl) (by omega) rfl
  refine ⟨os.set k { o with x := { x with cp := q } }, by rw [List.map_set, e], ⟨by rw [flat15_len, List.length_set]; omega, .inr ⟨g, c, _, rfl, hbg, hs.1, hnc, hcm, by simpa using hcs, hs.2.1⟩⟩, fun o2 ho2 => ?_⟩
  have hin : ∃ o3 ∈ os, ownE w base o2 := by
    rcases List.mem_or_eq_of_mem_set ho2 with h3 | h3
    · exact ⟨o2, h3, ht o2 h3⟩
    · subst h3
      refine ⟨o, List.mem_of_getElem? hok, ?_⟩
      have := ht o (List.mem_of_getElem? hok)
      subst hox
      exact this
  obtain ⟨_, _, hown⟩ := hin
  refine hown.map (fun {X n xs} h => ⟨h.1, fun hp => ?_⟩)
  obtain ⟨g', cur', hA, hg', hb', ht'⟩ := h.2 hp
  exact ⟨g', cur', hA, hg', Blk.far (p := ⟨g, k * 15 + 2, none⟩) hb' (hb'.ne_ hh (by decide)) _, ht'⟩
theorem accE_head {w : World} {base n c : Nat} {A : Option Addr} {l : List En} (h : AccE w base (.slice A n c) n l) (h0 : 0 < n) : ∃ g cur, A = some ⟨g, 0, none⟩ ∧ base ≤ g ∧ Blk w g 40 cur ∧ ∀ k x, l[k]? = some x → w.cell? ⟨g, k * 15 + 2, none⟩ = some (.int .i64 x.cp) := by
  obtain ⟨os, e, ho, ht⟩ := h
  have hfl := flat15_len os
  have hn := ho.1
  rcases ho.2 with ⟨h1, h2⟩ | ⟨g, cap, cur, hv, hbg, hh, hnc, hcm, hcs, htk⟩
  · injection h1 with _ h1 _
    omega
  · injection hv with hA _ _
    have hh : Blk w g 40 cur := hh
    refine ⟨g, cur, hA, hbg, hh, fun k x hk => ?_⟩
    rw [← e, List.getElem?_map] at hk
    obtain ⟨o, hok, rfl⟩ := Option.map_eq_some_iff.1 hk
    have h5 := flat15_at os k 2 o (.int .i64 o.x.cp) hok rfl (by omega)
    rw [← htk, List.getElem?_take] at h5
    rw [hh.cell]
    split at h5
    · simpa using h5
    · cases h5
/-- A list that is answered, in new memory. -/
def OutE (w : World) (v : Value) (l : List En) (w' : World) : Prop := ∃ A n c, v = .slice A n c ∧ TwE w n l A c w'
theorem outE_nil {w w' : World} (hB : Below w.heap.size w w') : OutE w (.slice none 0 0) [] w' := ⟨none, 0, 0, rfl, accE_done (accE_nil _ _) hB⟩
theorem TwE.out {w w1 w' : World} {n c : Nat} {A : Option Addr} {l : List En} (h : TwE w1 n l A c w') (hB : Below w.heap.size w w1) : OutE w (.slice A n c) l w' := ⟨A, n, c, rfl, accE_done (h.2.2.2.2.base_le hB.size) (hB.trans (h.2.2.2.1.mono hB.size))⟩
/-- What Double answers. -/
def DblF (l : List En) (N : Int) (l' : List En) (E : Int) : Prop := (ChkF l E ∧ E ≠ 0 ∧ l' = []) ∨ (ChkF l 0 ∧ ¬ (0 ≤ N ∧ N ≤ 1048575) ∧ E = 2 ∧ l' = []) ∨ (ChkF l 0 ∧ (0 ≤ N ∧ N ≤ 1048575) ∧
  ((∃ (k : Nat) (x : En), l[k]? = some x ∧ x.nu = N ∧ ((x.cp = 16 ∧ l' = [] ∧ E = 9) ∨ (x.cp ≠ 16 ∧ l' = l.set k { x with cp := x.cp + 1 } ∧ E = 0))) ∨ ((∀ (j : Nat) (x : En), l[j]? = some x → x.nu ≠ N) ∧ l' = l ∧ E = 0)))
theorem lastN_lt {l : List En} (h : goodF l) : ∀ (k j : Nat) (x y : En), j < k → l[j]? = some x → l[k]? = some y → x.nu < y.nu
  | 0, j, x, y, hj, _, _ => by omega
  | k + 1, j, x, y, hj, hx, hy => by
    have h1 := (h (k + 1) y hy).1
    have hk : k < l.length := by have := (List.getElem?_eq_some_iff.1 hy).1; omega
    have hz : l[k]? = some l[k] := List.getElem?_eq_getElem hk
    simp only [lastN, hz] at h1
    rcases Nat.lt_or_ge j k with h2 | h2
    · have := lastN_lt h k j x _ h2 hx hz
      omega
    · obtain rfl : j = k := by omega
      rw [hz] at hx
      injection hx with hx
      subst hx
      exact h1
theorem at_none {l : List En} {N : Int} {k : Nat} (h : goodF l) (hk : AtF l N k) (hi : isAt l N k = false) : ∀ (j : Nat) (x : En), l[j]? = some x → x.nu ≠ N := by
  intro j x hx
  rcases Nat.lt_trichotomy j k with h1 | rfl | h1
  · have := hk.2.1 j x h1 hx
    omega
  · simp only [isAt, hx] at hi
    exact of_decide_eq_false hi
  · have hkl : k < l.length := by have := (List.getElem?_eq_some_iff.1 hx).1; omega
    have hz : l[k]? = some l[k] := List.getElem?_eq_getElem hkl
    have h2 := lastN_lt h j k _ x h1 hz hx
    have h3 := hk.2.2 _ hz
    omega
theorem at_some {l : List En} {N : Int} {k : Nat} (hi : isAt l N k = true) : ∃ x, l[k]? = some x ∧ x.nu = N := by
  unfold isAt at hi
  split at hi
  · exact ⟨_, by assumption, of_decide_eq_true hi⟩
  · cases hi
theorem ChkF.good {l : List En} (h : ChkF l 0) : goodF l := by
  rcases h.has with ⟨h, _⟩ | ⟨_, _, h⟩ | ⟨h, _⟩
  · cases h
  · exact h
  · cases h
set_option maxRecDepth 100000 in
set_option maxHeartbeats 16000000 in
theorem double_any (A : Option Addr) (n c : Nat) (l : List En) (hm : n ≤ 10000) (hs1 : ∀ x ∈ l, smM x.give) (w : World) (h : Ens w w.heap.size A n l) (N : Int) : Calls Try.prog 12 #[.slice A n c, .int .i64 N] w fun en w' => ∃ l' v E, en = .returned (.tuple #[v, .int .i64 E]) ∧ DblF l N l' E ∧ OutE w v l' w' := by
  have hf := found_any A n c l (by unfold maxLen; omega) w h N
  have gln := Lib.hid (ens_len h)
  have gh := Lib.hid h
  have gs := Lib.hid hs1
  clear h hs1
  go_enter Try.func12, Try.ntmps12
  go_wp2_with fail
  refine hf.mono ?_
  rintro en w1 ⟨a, i, E, rfl, hF, hb1⟩
  clear hf
  rcases hF with ⟨hE, hne, rfl, rfl⟩ | ⟨hE, hne, rfl, rfl, rfl⟩ | ⟨hE, hne, ⟨k, rfl, hk, rfl⟩, rfl⟩
  · rcases hE.has with ⟨rfl, _⟩ | ⟨rfl, _, _⟩ | ⟨rfl, _, _⟩
    · have gd : Hid (DblF l N [] 4) := Lib.hid (.inl ⟨hE, hne, rfl⟩)
      clear hE hne
      go_wp2
      go_ret2
      exact ⟨_, _, _, rfl, gd.out, outE_nil hb1⟩
    · exact absurd rfl hne
    · have gd : Hid (DblF l N [] 8) := Lib.hid (.inl ⟨hE, hne, rfl⟩)
      clear hE hne
      go_wp2
      go_ret2
      exact ⟨_, _, _, rfl, gd.out, outE_nil hb1⟩
  · have gd : Hid (DblF l N [] 2) := Lib.hid (.inr (.inl ⟨hE, hne, rfl, rfl⟩))
    clear hE hne
    go_wp2
    go_ret2
    exact ⟨_, _, _, rfl, gd.out, outE_nil hb1⟩
  · have h1 : Ens w1 w1.heap.size A n l := Recs.more (Recs.below gh.out hb1) hb1.size
    have ht := etwin_any A n c l hm gs.out w1 h1
    have gE := Lib.hid hE
    have gne := Lib.hid hne
    have gk := Lib.hid hk
    obtain ⟨Q, hQ⟩ : ∃ Q, isAt l N k = Q := ⟨_, rfl⟩
    rw [hQ]
    have gQ := Lib.hid hQ
    clear hE hne hk hQ
    cases Q with
    | false =>
      have gd : Hid (DblF l N l 0) := Lib.hid (.inr (.inr ⟨gE.out, gne.out, .inr ⟨at_none gE.out.good gk.out gQ.out, rfl, rfl⟩⟩))
      clear h1
      go_wp2_with (go_at_call 34; refine ht.mono ?_; rintro en w2 ⟨Ao, co, rfl, h2⟩; have g2 := Lib.hid h2; clear h2)
      go_ret2
      exact ⟨_, _, _, rfl, gd.out, g2.out.out hb1⟩
    | true =>
      obtain ⟨x, hx, hxn⟩ := at_some gQ.out
      have hlt : k < n := by rw [← gln.out]; exact (List.getElem?_eq_some_iff.1 hx).1
      obtain ⟨ad, nu, ep, cp, ag0, aX0, an0, ac0, ae0, ag1, aX1, an1, ac1, ae1, ag2, aX2, an2, ac2, ae2, ag3, aX3, an3, ac3, ae3, m, rfl, _, hl1, hx1, hrel1⟩ := ens_rel h1 hlt
      obtain ⟨a0, a1, a2, a3, a4, a5, a6, a7, a8, a9, a10, a11, a12, a13, a14⟩ := (hrel1 w1 (Below.refl _ _)).2
      rw [hx] at hl1
      injection hl1 with hl1
      subst hl1
      have hcp := gE.out.good k _ hx
      have c1 : 1 ≤ cp := hcp.2.2.2.2.1
      have c2 : cp ≤ 16 := hcp.2.2.2.2.2.1
      have gx := Lib.hid hx
      have gxn := Lib.hid hxn
      have i1 : (0 : Int) ≤ k := by omega
      have i2 : (k : Int) < n := by omega
      clear hrel1 hx1 h1 hcp hx hxn
      by_cases hc : cp = 16
      · subst hc
        have gd : Hid (DblF l N [] 9) := Lib.hid (.inr (.inr ⟨gE.out, gne.out, .inl ⟨k, _, gx.out, gxn.out, .inl ⟨rfl, rfl, rfl⟩⟩⟩))
        clear c1 c2
        go_wp2
        go_ret2
        exact ⟨_, _, _, rfl, gd.out, outE_nil hb1⟩
      · have gd : Hid (DblF l N (l.set k { (⟨nu, ep, cp, m⟩ : En) with cp := cp + 1 }) 0) := Lib.hid (.inr (.inr ⟨gE.out, gne.out, .inl ⟨k, _, gx.out, gxn.out, .inr ⟨hc, rfl, rfl⟩⟩⟩))
        have f1 : (cp == 16) = false := by simpa using hc
        have f2 : IntKind.i64.wrap (cp + 1) = cp + 1 := by simp [IntKind.wrap, IntKind.bits, IntKind.signed]; omega
        clear hc
        go_wp2_with (go_at_call 34; refine ht.mono ?_; rintro en w2 ⟨Ao, co, rfl, h2⟩; have g2 := Lib.hid h2; (obtain ⟨g, cur, rfl, hbg, hgl, hcl⟩ := accE_head h2.2.2.2.2 (by omega)); have q0 := hcl k _ gx.out; have qf := hgl.frozen (k * 15 + 2); have hp : (⟨g, 0, none⟩ : Addr).add (k * 15) = ⟨g, k * 15, none⟩ := (by unfold Addr.add; split <;> simp_all); simp only at q0; clear h2 hcl)
        go_ret2
        refine ⟨_, _, _, rfl, gd.out, some ⟨g, 0, none⟩, n, co, rfl, accE_done ((accE_copies g2.out.2.2.2.2 gx.out (cp + 1)).base_le hb1.size) ?_⟩
        exact Below.setCell (hb1.trans (g2.out.2.2.2.1.mono hb1.size)) (Nat.le_trans hb1.size hbg) _
set_option maxRecDepth 100000 in
set_option maxHeartbeats 16000000 in
theorem rdouble_any (A : Option Addr) (n c : Nat) (l : List En) (hm : n ≤ 10000) (hs1 : ∀ x ∈ l, smM x.give) (w : World) (h : Ens w w.heap.size A n l) (N : Int) : Calls Try.prog 13 #[.slice A n c, .int .i64 N] w fun en w' => ∃ l' v E, en = .returned (.tuple #[v, .int .i64 E]) ∧ DblF l N l' E ∧ OutE w v l' w' := by
  have hf := rasked_any A n c l (by unfold maxLen; omega) w h N
  have gln := Lib.hid (ens_len h)
  have gh := Lib.hid h
  have gs := Lib.hid hs1
  clear h hs1
  go_enter Try.func13, Try.ntmps13
  go_wp2_with fail
  refine hf.mono ?_
  rintro en w1 ⟨E, rfl, hF, hb1⟩
  clear hf
  rcases hF with ⟨hE, hne⟩ | ⟨hE, hne, rfl⟩ | ⟨hE, hne, rfl⟩
  · rcases hE.has with ⟨rfl, _⟩ | ⟨rfl, _, _⟩ | ⟨rfl, _, _⟩
    · have gd : Hid (DblF l N [] 4) := Lib.hid (.inl ⟨hE, hne, rfl⟩)
      clear hE hne
      go_wp2
      go_ret2
      exact ⟨_, _, _, rfl, gd.out, outE_nil hb1⟩
    · exact absurd rfl hne
    · have gd : Hid (DblF l N [] 8) := Lib.hid (.inl ⟨hE, hne, rfl⟩)
      clear hE hne
      go_wp2
      go_ret2
      exact ⟨_, _, _, rfl, gd.out, outE_nil hb1⟩
  · have gd : Hid (DblF l N [] 2) := Lib.hid (.inr (.inl ⟨hE, hne, rfl, rfl⟩))
    clear hE hne
    go_wp2
    go_ret2
    exact ⟨_, _, _, rfl, gd.out, outE_nil hb1⟩
  · have h1 : Ens w1 w1.heap.size A n l := Recs.more (Recs.below gh.out hb1) hb1.size
    have ht := retwin_any A n c l hm gs.out w1 h1
    have gE := Lib.hid hE
    have gne := Lib.hid hne
    clear hE hne h1
    go_wp2_with fail
    refine ht.mono ?_
    rintro en w2 ⟨Ao, co, rfl, h2⟩
    have hb2 := hb1.trans (h2.2.2.2.1.mono hb1.size)
    have g2 := Lib.hid h2
    have hn16 : n ≤ 16 := by
      rcases gE.out.has with ⟨h, _⟩ | ⟨_, h, _⟩ | ⟨h, _⟩
      · cases h
      · rw [← gln.out]; exact h
      · cases h
    have hp3 := rplace_any A n c l hn16 w2 (Recs.more (Recs.below gh.out hb2) hb2.size) N
    clear h2 ht
    go_wp2_with fail
    refine hp3.mono ?_
    rintro en w3 ⟨a, rfl, hP, hb3⟩
    clear hp3
    have hb4 := hb2.trans (hb3.mono hb2.size)
    have g3 : Hid (AccE w3 w1.heap.size (.slice Ao n co) n l) := Lib.hid (g2.out.2.2.2.2.below hb3)
    rcases hP with ⟨k, rfl, hk, hkx, hkj⟩ | ⟨rfl, hno⟩
    · obtain ⟨x, hx⟩ : ∃ x, l[k]? = some x := ⟨_, List.getElem?_eq_getElem hk⟩
      have hxn := hkx x hx
      have hlt : k < n := by rw [← gln.out]; exact hk
      obtain ⟨ad, nu, ep, cp, ag0, aX0, an0, ac0, ae0, ag1, aX1, an1, ac1, ae1, ag2, aX2, an2, ac2, ae2, ag3, aX3, an3, ac3, ae3, m, rfl, _, hl1, hx1, hrel1⟩ := ens_rel gh.out hlt
      obtain ⟨a0, a1, a2, a3, a4, a5, a6, a7, a8, a9, a10, a11, a12, a13, a14⟩ := (hrel1 w3 hb4).2
      rw [hx] at hl1
      injection hl1 with hl1
      subst hl1
      have hcp := gE.out.good k _ hx
      have c1 : 1 ≤ cp := hcp.2.2.2.2.1
      have c2 : cp ≤ 16 := hcp.2.2.2.2.2.1
      have gx := Lib.hid hx
      have gxn := Lib.hid hxn
      have i0 : decide ((k : Int) < 0) = false := decide_eq_false (by omega)
      have i1 : (0 : Int) ≤ k := by omega
      have i2 : (k : Int) < n := by omega
      clear hrel1 hx1 hcp hx hxn hkx hkj
      by_cases hc : cp = 16
      · subst hc
        have gd : Hid (DblF l N [] 9) := Lib.hid (.inr (.inr ⟨gE.out, gne.out, .inl ⟨k, _, gx.out, gxn.out, .inl ⟨rfl, rfl, rfl⟩⟩⟩))
        clear c1 c2
        go_wp2
        go_ret2
        exact ⟨_, _, _, rfl, gd.out, outE_nil hb4⟩
      · have gd : Hid (DblF l N (l.set k { (⟨nu, ep, cp, m⟩ : En) with cp := cp + 1 }) 0) := Lib.hid (.inr (.inr ⟨gE.out, gne.out, .inl ⟨k, _, gx.out, gxn.out, .inr ⟨hc, rfl, rfl⟩⟩⟩))
        have f1 : decide ((16 : Int) ≤ cp) = false := decide_eq_false (by omega)
        have f2 : IntKind.i64.wrap (cp + 1) = cp + 1 := by simp [IntKind.wrap, IntKind.bits, IntKind.signed]; omega
        obtain ⟨g, cur, rfl, hbg, hgl, hcl⟩ := accE_head g3.out (by omega)
        have q0 := hcl k _ gx.out
        have qf := hgl.frozen (k * 15 + 2)
        have hp : (⟨g, 0, none⟩ : Addr).add (k * 15) = ⟨g, k * 15, none⟩ := by unfold Addr.add; split <;> simp_all
        simp only at q0
        clear hc hcl
        go_wp2
        go_ret2
        refine ⟨_, _, _, rfl, gd.out, some ⟨g, 0, none⟩, n, co, rfl, accE_done ((accE_copies g3.out gx.out (cp + 1)).base_le hb1.size) ?_⟩
        exact Below.setCell hb4 (Nat.le_trans hb1.size hbg) _
    · have gd : Hid (DblF l N l 0) := Lib.hid (.inr (.inr ⟨gE.out, gne.out, .inr ⟨hno, rfl, rfl⟩⟩))
      clear hno
      go_wp2
      go_ret2
      exact ⟨_, _, _, rfl, gd.out, Ao, n, co, rfl, accE_done (g3.out.base_le hb1.size) hb4⟩
end Go.Proofs.Ytdmjdpaehnhdoaa
