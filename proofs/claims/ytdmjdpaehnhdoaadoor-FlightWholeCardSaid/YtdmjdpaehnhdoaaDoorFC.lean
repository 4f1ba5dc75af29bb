/- Flight's Door: FlightWhole -/
import Derived.Test.YtdmjdpaehnhdoaaDoorFB
import Derived.Test.YtdmjdpaehnhdoaaDoorNH
import Derived.Test.YtdmjdpaehnhdoaaDoorNE
import Derived.Test.YtdmjdpaehnhdoaaDoorLH
namespace Go.Proofs.YtdmjdpaehnhdoaaDoor
open Go.ChangeShapes Go.WideShapes Go.ChangeAt Go.RowKit
set_option linter.unusedSimpArgs false
set_option linter.unusedVariables false
open Go.Shelf
set_option maxRecDepth 100000
theorem m12_sz : True := trivial
def c15 (w : World) (g : Nat) (u0 u1 u2 u3 u4 u5 u6 u7 u8 u9 u10 u11 u12 u13 u14 : Value) : World := ((((((((((((((w.setCell ⟨g, 0, none⟩ u0).setCell ⟨g, 1, none⟩ u1).setCell ⟨g, 2, none⟩ u2).setCell ⟨g, 3, none⟩ u3).setCell ⟨g, 4, none⟩ u4).setCell ⟨g, 5, none⟩ u5).setCell ⟨g, 6, none⟩ u6).setCell ⟨g, 7, none⟩ u7).setCell ⟨g, 8, none⟩ u8).setCell ⟨g, 9, none⟩ u9).setCell ⟨g, 10, none⟩ u10).setCell ⟨g, 11, none⟩ u11).setCell ⟨g, 12, none⟩ u12).setCell ⟨g, 13, none⟩ u13).setCell ⟨g, 14, none⟩ u14
theorem c15_blk {w : World} {g : Nat} {z0 z1 z2 z3 z4 z5 z6 z7 z8 z9 z10 z11 z12 z13 z14 : Value} (h : Blk w g 48 #[z0, z1, z2, z3, z4, z5, z6, z7, z8, z9, z10, z11, z12, z13, z14]) (u0 u1 u2 u3 u4 u5 u6 u7 u8 u9 u10 u11 u12 u13 u14 : Value) : Blk (c15 w g u0 u1 u2 u3 u4 u5 u6 u7 u8 u9 u10 u11 u12 u13 u14) g 48 #[u0, u1, u2, u3, u4, u5, u6, u7, u8, u9, u10, u11, u12, u13, u14] := b15_z h u0 u1 u2 u3 u4 u5 u6 u7 u8 u9 u10 u11 u12 u13 u14
theorem c15_below {w w0 : World} {B g : Nat} (h : Below B w0 w) (hg : B ≤ g) (u0 u1 u2 u3 u4 u5 u6 u7 u8 u9 u10 u11 u12 u13 u14 : Value) : Below B w0 (c15 w g u0 u1 u2 u3 u4 u5 u6 u7 u8 u9 u10 u11 u12 u13 u14) := by
  unfold c15
  exact ((((((((((((((h.setCell (p := ⟨g, 0, none⟩) hg u0).setCell (p := ⟨g, 1, none⟩) hg u1).setCell (p := ⟨g, 2, none⟩) hg u2).setCell (p := ⟨g, 3, none⟩) hg u3).setCell (p := ⟨g, 4, none⟩) hg u4).setCell (p := ⟨g, 5, none⟩) hg u5).setCell (p := ⟨g, 6, none⟩) hg u6).setCell (p := ⟨g, 7, none⟩) hg u7).setCell (p := ⟨g, 8, none⟩) hg u8).setCell (p := ⟨g, 9, none⟩) hg u9).setCell (p := ⟨g, 10, none⟩) hg u10).setCell (p := ⟨g, 11, none⟩) hg u11).setCell (p := ⟨g, 12, none⟩) hg u12).setCell (p := ⟨g, 13, none⟩) hg u13).setCell (p := ⟨g, 14, none⟩) hg u14
theorem c15_own {w : World} {g B : Nat} {o : EO} (h : ownE w B o) (hg : g < B) (u0 u1 u2 u3 u4 u5 u6 u7 u8 u9 u10 u11 u12 u13 u14 : Value) : ownE (c15 w g u0 u1 u2 u3 u4 u5 u6 u7 u8 u9 u10 u11 u12 u13 u14) B o := by
  unfold c15
  exact ((((((((((((((h.map (fun h => h.far (p := ⟨g, 0, none⟩) hg u0)).map (fun h => h.far (p := ⟨g, 1, none⟩) hg u1)).map (fun h => h.far (p := ⟨g, 2, none⟩) hg u2)).map (fun h => h.far (p := ⟨g, 3, none⟩) hg u3)).map (fun h => h.far (p := ⟨g, 4, none⟩) hg u4)).map (fun h => h.far (p := ⟨g, 5, none⟩) hg u5)).map (fun h => h.far (p := ⟨g, 6, none⟩) hg u6)).map (fun h => h.far (p := ⟨g, 7, none⟩) hg u7)).map (fun h => h.far (p := ⟨g, 8, none⟩) hg u8)).map (fun h => h.far (p := ⟨g, 9, none⟩) hg u9)).map (fun h => h.far (p := ⟨g, 10, none⟩) hg u10)).map (fun h => h.far (p := ⟨g, 11, none⟩) hg u11)).map (fun h => h.far (p := ⟨g, 12, none⟩) hg u12)).map (fun h => h.far (p := ⟨g, 13, none⟩) hg u13)).map (fun h => h.far (p := ⟨g, 14, none⟩) hg u14)
/-- What an epoch's loads carry, as a list. -/
def efl (l : List En) (N : Int) : List Ms := (l.filter (fun x => x.ep == N)).map (·.give)
theorem efl_app (a b : List En) (N : Int) : efl (a ++ b) N = efl a N ++ efl b N := by
  unfold efl
  rw [List.filter_append, List.map_append]
theorem efl_one (y : En) (N : Int) : efl [y] N = if y.ep = N then [y.give] else [] := by
  unfold efl
  by_cases h : y.ep = N
  · rw [if_pos h, List.filter_cons, if_pos (beq_iff_eq.2 h)]; rfl
  · rw [if_neg h, List.filter_cons, if_neg (by simpa using h)]; rfl
theorem split_at {l : List En} {k : Nat} {y : En} (h : l[k]? = some y) : l = l.take k ++ ([y] ++ l.drop (k + 1)) := by
  have hk := (List.getElem?_eq_some_iff.1 h).1
  have e := (List.getElem?_eq_some_iff.1 h).2
  rw [List.singleton_append, ← e, ← List.drop_eq_getElem_cons hk, List.take_append_drop]
theorem set_at {l : List En} {k : Nat} {y z : En} (h : l[k]? = some y) : l.set k z = l.take k ++ ([z] ++ l.drop (k + 1)) := by
  have hk := (List.getElem?_eq_some_iff.1 h).1
  rw [List.set_eq_take_append_cons_drop, if_pos hk]
  simp
theorem wS_app : ∀ a b : List Ms, wS (a ++ b) = wAdd (wS a) (wS b)
  | [], b => (wZ_add _).symm
  | x :: r, b => by
    show wAdd (wM x) (wS (r ++ b)) = wAdd (wAdd (wM x) (wS r)) (wS b)
    rw [wS_app r b, wAdd_assoc]
/-- THE STAGE'S THEOREM, of sums: what comes down, and what is left, are the whole. -/
theorem whole_plain {q : Bool} {l l' : List En} {N e2 : Int} {x : En} {a b : Ms} (h : CmeF q l N l' x 0) (ha : sumFl l e2 = some a) (hb : sumFl l' e2 = some b) : ((x = zE ∨ x.ep ≠ e2) → a = b) ∧ (x.ep = e2 → x ≠ zE → ∀ d, addM b x.give = some d → d = a) := by
  have ha' : sumL (efl l e2) = some a := ha
  have hb' : sumL (efl l' e2) = some b := hb
  have same : efl l' e2 = efl l e2 → a = b := fun e => by
    rw [e, ha'] at hb'
    injection hb'
  rcases h with ⟨_, h0, _⟩ | ⟨_, _, h0, _⟩ | ⟨_, _, _, ⟨k, y, hy, _, ⟨_, rfl, rfl⟩ | ⟨_, rfl, rfl⟩⟩ | ⟨_, rfl, rfl⟩⟩
  · exact absurd rfl h0
  · cases h0
  · have hl := split_at hy
    have e1 : efl l e2 = efl (l.take k) e2 ++ (efl [x] e2 ++ efl (l.drop (k + 1)) e2) := by
      conv => lhs; rw [hl]
      rw [efl_app, efl_app]
    have e2' : efl (l.take k ++ l.drop (k + 1)) e2 = efl (l.take k) e2 ++ efl (l.drop (k + 1)) e2 := efl_app _ _ _
    refine ⟨fun hx => ?_, fun hx _ d hd => ?_⟩
    · by_cases he : x.ep = e2
      · rcases hx with hx | hx
        · subst hx
          refine wM_inj (sumL_ok ha') (sumL_ok hb') ?_
          rw [wL ha', wL hb', e1, e2', efl_one, if_pos he, wS_app, wS_app, wS_app]
          show wAdd _ (wAdd (wAdd (wM zM) wZ) _) = _
          rw [wM_zM, wZ_add, wZ_add]
        · exact absurd he hx
      · refine same ?_
        rw [e1, e2', efl_one, if_neg he, List.nil_append]
    · refine wM_inj (okM_add hd) (sumL_ok ha') ?_
      rw [wM_add hd, wL ha', wL hb', e1, e2', efl_one, if_pos hx, wS_app, wS_app, wS_app]
      show wAdd (wAdd _ _) _ = wAdd _ (wAdd (wAdd (wM x.give) wZ) _)
      rw [wAdd_z, wAdd_assoc, wAdd_comm (wS _) (wM x.give)]
  · refine ⟨fun _ => same ?_, fun _ hx => absurd rfl hx⟩
    have hl := split_at hy
    conv => rhs; rw [hl]
    rw [set_at hy, efl_app, efl_app, efl_app, efl_app, efl_one, efl_one]
  · exact ⟨fun _ => same rfl, fun _ hx => absurd rfl hx⟩
theorem cme_none {q : Bool} {l l' : List En} {N : Int} {x : En} (h : CmeF q l N l' x 0) : x = zE ∨ 1 ≤ x.cp := by
  rcases h with ⟨_, h0, _⟩ | ⟨_, _, h0, _⟩ | ⟨hc, _, _, ⟨k, y, hy, _, ⟨_, rfl, rfl⟩ | ⟨_, rfl, rfl⟩⟩ | ⟨_, rfl, rfl⟩⟩
  · exact absurd rfl h0
  · cases h0
  · rcases hc with ⟨_, h⟩ | ⟨_, h, _⟩ | ⟨_, _, h⟩
    · cases h
    · exact .inr (h k _ hy).2.2.2.2.1
    · cases h
  · exact .inl rfl
  · exact .inl rfl
theorem cme_lt {q : Bool} {l l' : List En} {N E : Int} {x : En} (hs : ∀ x ∈ l, ltM4 x.give) (h : CmeF q l N l' x E) : (∀ x ∈ l', ltM4 x.give) ∧ ltM4 x.give := by
  have hz : ltM4 zE.give := zM_lt
  rcases h with ⟨_, _, rfl, rfl⟩ | ⟨_, _, _, rfl, rfl⟩ | ⟨_, _, _, ⟨k, y, hy, _, ⟨_, rfl, rfl⟩ | ⟨_, rfl, rfl⟩⟩ | ⟨_, rfl, rfl⟩⟩
  · exact ⟨fun x h => (by cases h), hz⟩
  · exact ⟨fun x h => (by cases h), hz⟩
  · exact ⟨fun z hx => (List.mem_append.1 hx).elim (fun h => hs z (List.mem_of_mem_take h)) (fun h => hs z (List.mem_of_mem_drop h)), hs _ (List.mem_of_getElem? hy)⟩
  · refine ⟨fun z hx => ?_, hz⟩
    rw [set_at hy] at hx
    rcases List.mem_append.1 hx with h | h
    · exact hs z (List.mem_of_mem_take h)
    · rcases List.mem_append.1 h with h | h
      · rw [List.mem_singleton.1 h]; exact hs y (List.mem_of_getElem? hy)
      · exact hs z (List.mem_of_mem_drop h)
  · exact ⟨hs, hz⟩
/-- Behind the act. -/
structure MidW (b : Bool) (l : List En) (N : Int) (w : World) (tb : Nat) (v e : Value) (wx : World) : Prop where
  out : ∃ (l' : List En) (ox : EO) (E : Int) (A' : Option Addr) (n' c' : Nat), v = .slice A' n' c' ∧ e = .int .i64 E ∧ CmeF b l N l' ox.x E ∧ Ens wx wx.heap.size A' n' l' ∧ ownE wx 0 ox ∧ Blk wx tb 48 #[.int .i64 ox.x.nu, .int .i64 ox.x.ep, .int .i64 ox.x.cp, .bool ox.x.give.s.neg, .slice ox.X0 ox.x.give.s.ls.length ox.c0, .int .i64 ox.x.give.s.ex, .bool ox.x.give.w.neg, .slice ox.X1 ox.x.give.w.ls.length ox.c1, .int .i64 ox.x.give.w.ex, .bool ox.x.give.c.neg, .slice ox.X2 ox.x.give.c.ls.length ox.c2, .int .i64 ox.x.give.c.ex, .bool ox.x.give.a.neg, .slice ox.X3 ox.x.give.a.ls.length ox.c3, .int .i64 ox.x.give.a.ex] ∧ Below w.heap.size w wx
theorem lsE_cases' {E : Int} {s : Option Ms} (h : lsE E s = 0) : E = 0 ∧ ∃ d, s = some d ∧ lsM E s = d := by
  unfold lsE at h
  by_cases h0 : E ≠ 0
  · rw [if_pos h0] at h; exact absurd h h0
  · rw [if_neg h0] at h
    cases s with
    | none => cases h
    | some d => exact ⟨Decidable.not_not.1 h0, d, rfl, by unfold lsM; rw [if_neg h0]; rfl⟩
/-- Loads of the call's own, apart from an elder box. -/
structure RowX (w : World) (B : Nat) (A : Option Addr) (n c : Nat) (l : List En) : Prop where
  out : ∃ os : List EO, os.map (·.x) = l ∧ w.ownsRow B 48 15 (.slice A n c) n (os.flatMap row15) ∧ ∀ o ∈ os, ownE w B o
theorem rowsE_own {w : World} {B t n c : Nat} {A : Option Addr} {l : List En} {os : List EO} (he : os.map (·.x) = l) (hr : w.ownsRow B 48 15 (.slice A n c) n (os.flatMap row15)) (ho : ∀ o ∈ os, ownE w B o) (h : t < B) : RowX w (t + 1) A n c l := ⟨os, he, own_base_le hr h, fun o hO => (ho o hO).map (fun q => q.base_le h)⟩
theorem own_farX {w : World} {base size n : Nat} {e : TypeId} {v : Value} {xs : List Value} (h : w.ownsRow base e size v n xs) {p : Addr} (hp : p.block < base) (u : Value) : (w.setCell p u).ownsRow base e size v n xs := by
  refine ⟨h.1, ?_⟩
  rcases h.2 with hn | ⟨k, c, cur, rfl, hb, hh, q⟩
  · exact .inl hn
  · exact .inr ⟨k, c, cur, rfl, hb, (Below.heap_setCell w p u k (by omega)).trans hh, q⟩
theorem RowX.far {w : World} {B n c : Nat} {A : Option Addr} {l : List En} (h : RowX w B A n c l) {p : Addr} (hp : p.block < B) (u : Value) : RowX (w.setCell p u) B A n c l := by
  obtain ⟨os, e, hr, ho⟩ := h.out
  exact ⟨os, e, own_farX hr hp u, fun o hO => (ho o hO).map (fun q => q.far hp u)⟩
theorem RowX.ens {w : World} {B n c : Nat} {A : Option Addr} {l : List En} (h : RowX w B A n c l) : Ens w w.heap.size A n l := by
  obtain ⟨os, rfl, hr, ho⟩ := h.out
  exact rows_ens (Reads.of_own hr) (fun o h => (ho o h).rd)
theorem RowX.ens_c15 {w : World} {g n c : Nat} {A : Option Addr} {l : List En} (h : RowX w (g + 1) A n c l) (u0 u1 u2 u3 u4 u5 u6 u7 u8 u9 u10 u11 u12 u13 u14 : Value) : Ens (c15 w g u0 u1 u2 u3 u4 u5 u6 u7 u8 u9 u10 u11 u12 u13 u14) (c15 w g u0 u1 u2 u3 u4 u5 u6 u7 u8 u9 u10 u11 u12 u13 u14).heap.size A n l := by
  unfold c15
  exact (((((((((((((((h.far (p := ⟨g, 0, none⟩) (Nat.lt_succ_self _) u0).far (p := ⟨g, 1, none⟩) (Nat.lt_succ_self _) u1).far (p := ⟨g, 2, none⟩) (Nat.lt_succ_self _) u2).far (p := ⟨g, 3, none⟩) (Nat.lt_succ_self _) u3).far (p := ⟨g, 4, none⟩) (Nat.lt_succ_self _) u4).far (p := ⟨g, 5, none⟩) (Nat.lt_succ_self _) u5).far (p := ⟨g, 6, none⟩) (Nat.lt_succ_self _) u6).far (p := ⟨g, 7, none⟩) (Nat.lt_succ_self _) u7).far (p := ⟨g, 8, none⟩) (Nat.lt_succ_self _) u8).far (p := ⟨g, 9, none⟩) (Nat.lt_succ_self _) u9).far (p := ⟨g, 10, none⟩) (Nat.lt_succ_self _) u10).far (p := ⟨g, 11, none⟩) (Nat.lt_succ_self _) u11).far (p := ⟨g, 12, none⟩) (Nat.lt_succ_self _) u12).far (p := ⟨g, 13, none⟩) (Nat.lt_succ_self _) u13).far (p := ⟨g, 14, none⟩) (Nat.lt_succ_self _) u14).ens
set_option maxHeartbeats 64000000 in
theorem FlightWhole.walk (A : Option Addr) (n c : Nat) (l : List En) (hmx : n ≤ maxLen) (hl : ∀ x ∈ l, ltM4 x.give) (N e2 : Int) (b : Bool) (w : World) (h1 : Ens w w.heap.size A n l) (hT : Tab w) : Calls Tryd.prog 4 #[.slice A n c, .int .i64 N, .int .i64 e2, .bool b] w fun en w' => en = .returned (.bool true) ∧ Below w.heap.size w w' := by
  have gln := Lib.hid (ens_len h1)
  have gB := Lib.hid (Below.refl w.heap.size w)
  have gT := Lib.hid hT
  have r1 := Lib.hid h1
  have gT0 := gT
  have r10 := r1
  clear h1 hT
  go_enter Tryd.func4, Tryd.ntmps4
  go_wp2_with fail
  refine (alive_any w).mono ?_
  rintro en x1 ⟨rfl, hb⟩
  have sx1 : w.heap.size ≤ x1.heap.size := hb.size
  replace gT := Lib.hid (Tab.below gT.out hb gT.out.2)
  replace r1 := Lib.hid (Recs.more (Recs.below r1.out hb) hb.size)
  replace gB := Lib.hid (gB.out.trans (hb.mono gB.out.size))
  clear hb
  go_wp2_with fail
  refine (lgreat_any A n c l hmx x1 r1.out).mono ?_
  rintro en x2 ⟨G, rfl, hb, hG⟩
  have sx2 : x1.heap.size ≤ x2.heap.size := hb.size
  replace gT := Lib.hid (Tab.below gT.out hb gT.out.2)
  replace r1 := Lib.hid (Recs.more (Recs.below r1.out hb) hb.size)
  replace gB := Lib.hid (gB.out.trans (hb.mono gB.out.size))
  clear hb
  cases G with
  | true =>
    clear hG
    go_wp2
    go_ret
    exact ⟨rfl, gB.out⟩
  | false =>
  have gG := Lib.hid (hG rfl)
  clear hG
  have gs : Hid (∀ x ∈ l, smM x.give) := Lib.hid (fun x hx => by have := gG.out.2 x hx; unfold smM; omega)
  have hn10 : n ≤ 10000 := by have h1 := gG.out.1; have h2 := gln.out; rw [h2] at h1; omega
  go_wp2_with fail
  refine (lose_any A n c l hn10 gs.out x2 r1.out N).mono ?_
  rintro en x3 ⟨l1', x1', o1', v1', vx1, E1, rfl, hF, rfl, hP⟩
  obtain ⟨⟨A1, n1, c1, os, rfl, he, hx, hr, ho, hox, _⟩, hb⟩ := hP
  subst hx
  have hEn : Ens x3 x3.heap.size A1 n1 l1' := by rw [← he]; exact rows_ens (Reads.of_own hr) (fun o h => (ho o h).rd)
  have gC1 := Lib.hid hF
  have r2 := Lib.hid hEn
  have uo1 : Hid (ownE x3 x2.heap.size o1') := Lib.hid hox
  clear hF hEn hox he hr ho
  unfold aggE
  have sx3 : x2.heap.size ≤ x3.heap.size := hb.size
  replace gT := Lib.hid (Tab.below gT.out hb gT.out.2)
  replace r1 := Lib.hid (Recs.more (Recs.below r1.out hb) hb.size)
  replace gB := Lib.hid (gB.out.trans (hb.mono gB.out.size))
  clear hb
  obtain ⟨tb, ht⟩ : ∃ t, t = x3.heap.size := ⟨_, rfl⟩
  obtain ⟨y3b, hy3b⟩ : ∃ W, W = x3.alloc (.cells #[.int .i64 o1'.x.nu, .int .i64 o1'.x.ep, .int .i64 o1'.x.cp, .bool o1'.x.give.s.neg, .slice o1'.X0 o1'.x.give.s.ls.length o1'.c0, .int .i64 o1'.x.give.s.ex, .bool o1'.x.give.w.neg, .slice o1'.X1 o1'.x.give.w.ls.length o1'.c1, .int .i64 o1'.x.give.w.ex, .bool o1'.x.give.c.neg, .slice o1'.X2 o1'.x.give.c.ls.length o1'.c2, .int .i64 o1'.x.give.c.ex, .bool o1'.x.give.a.neg, .slice o1'.X3 o1'.x.give.a.ls.length o1'.c3, .int .i64 o1'.x.give.a.ex] 48) := ⟨_, rfl⟩
  have hb : Below x3.heap.size x3 y3b := by rw [hy3b]; exact (Below.refl _ _).alloc (Nat.le_refl _) _
  have kb : Blk y3b x3.heap.size 48 #[.int .i64 o1'.x.nu, .int .i64 o1'.x.ep, .int .i64 o1'.x.cp, .bool o1'.x.give.s.neg, .slice o1'.X0 o1'.x.give.s.ls.length o1'.c0, .int .i64 o1'.x.give.s.ex, .bool o1'.x.give.w.neg, .slice o1'.X1 o1'.x.give.w.ls.length o1'.c1, .int .i64 o1'.x.give.w.ex, .bool o1'.x.give.c.neg, .slice o1'.X2 o1'.x.give.c.ls.length o1'.c2, .int .i64 o1'.x.give.c.ex, .bool o1'.x.give.a.neg, .slice o1'.X3 o1'.x.give.a.ls.length o1'.c3, .int .i64 o1'.x.give.a.ex] := by rw [hy3b]; exact Blk.new _ _ _
  rw [← ht] at kb
  replace kb := Lib.hid kb
  have gtb : Hid (w.heap.size ≤ tb) := Lib.hid (by rw [ht]; exact gB.out.size)
  have sy3b : x3.heap.size ≤ y3b.heap.size := hb.size
  replace gT := Lib.hid (Tab.below gT.out hb gT.out.2)
  replace r1 := Lib.hid (Recs.more (Recs.below r1.out hb) hb.size)
  replace r2 := Lib.hid (Recs.more (Recs.below r2.out hb) hb.size)
  replace uo1 := Lib.hid (uo1.out.map (fun h => h.below hb))
  replace gB := Lib.hid (gB.out.trans (hb.mono gB.out.size))
  clear hb
  go_upto_if 34 with (fail)
  rw [← hy3b]
  clear hy3b
  rw [← ht]
  clear ht
  go_cut [10, 12] (fun v e wx => MidW b l N w tb v e wx)
  case first =>
    cases b with
    | false =>
      have gf : Hid (MidW false l N w tb (.slice A1 n1 c1) (.int .i64 E1) y3b) := Lib.hid ⟨l1', o1', E1, A1, n1, c1, rfl, rfl, gC1.out, r2.out, uo1.out.map (fun h => h.base_le (Nat.zero_le _)), kb.out, gB.out⟩
      go_wp2_with fail
      go_meet
      exact gf.out
    | true =>
      go_wp2_with fail
      refine (land_any A n c l hn10 gs.out y3b r1.out N).mono ?_
      rintro en x4 ⟨l2', x2', o2', v2', vx2, E2, rfl, hF, rfl, hP⟩
      obtain ⟨⟨A2, n2, c2, os, rfl, he, hx, hr, ho, hox, _⟩, hb⟩ := hP
      subst hx
      have hEn : Ens x4 x4.heap.size A2 n2 l2' := by rw [← he]; exact rows_ens (Reads.of_own hr) (fun o h => (ho o h).rd)
      have gC2 := Lib.hid hF
      have r3 := Lib.hid hEn
      have hlt2 : tb < y3b.heap.size := kb.out.lt
      have uo2 : Hid (ownE x4 (tb + 1) o2') := Lib.hid (hox.map (fun h => h.base_le hlt2))
      have gr3 := Lib.hid (rowsE_own he hr ho hlt2)
      clear hF hEn hox he hr ho
      unfold aggE
      have sx4 : y3b.heap.size ≤ x4.heap.size := hb.size
      replace gT := Lib.hid (Tab.below gT.out hb gT.out.2)
      replace r1 := Lib.hid (Recs.more (Recs.below r1.out hb) hb.size)
      replace r2 := Lib.hid (Recs.more (Recs.below r2.out hb) hb.size)
      replace uo1 := Lib.hid (uo1.out.map (fun h => h.below hb))
      replace kb := Lib.hid (kb.out.below hb kb.out.lt)
      replace gB := Lib.hid (gB.out.trans (hb.mono gB.out.size))
      clear hb
      have gf : Hid (MidW true l N w tb (.slice A2 n2 c2) (.int .i64 E2) (((((((((((((((x4.setCell ⟨tb, 0, none⟩ (.int .i64 o2'.x.nu)).setCell ⟨tb, 1, none⟩ (.int .i64 o2'.x.ep)).setCell ⟨tb, 2, none⟩ (.int .i64 o2'.x.cp)).setCell ⟨tb, 3, none⟩ (.bool o2'.x.give.s.neg)).setCell ⟨tb, 4, none⟩ (.slice o2'.X0 o2'.x.give.s.ls.length o2'.c0)).setCell ⟨tb, 5, none⟩ (.int .i64 o2'.x.give.s.ex)).setCell ⟨tb, 6, none⟩ (.bool o2'.x.give.w.neg)).setCell ⟨tb, 7, none⟩ (.slice o2'.X1 o2'.x.give.w.ls.length o2'.c1)).setCell ⟨tb, 8, none⟩ (.int .i64 o2'.x.give.w.ex)).setCell ⟨tb, 9, none⟩ (.bool o2'.x.give.c.neg)).setCell ⟨tb, 10, none⟩ (.slice o2'.X2 o2'.x.give.c.ls.length o2'.c2)).setCell ⟨tb, 11, none⟩ (.int .i64 o2'.x.give.c.ex)).setCell ⟨tb, 12, none⟩ (.bool o2'.x.give.a.neg)).setCell ⟨tb, 13, none⟩ (.slice o2'.X3 o2'.x.give.a.ls.length o2'.c3)).setCell ⟨tb, 14, none⟩ (.int .i64 o2'.x.give.a.ex))) := Lib.hid ⟨l2', o2', E2, A2, n2, c2, rfl, rfl, gC2.out, gr3.out.ens_c15 (.int .i64 o2'.x.nu) (.int .i64 o2'.x.ep) (.int .i64 o2'.x.cp) (.bool o2'.x.give.s.neg) (.slice o2'.X0 o2'.x.give.s.ls.length o2'.c0) (.int .i64 o2'.x.give.s.ex) (.bool o2'.x.give.w.neg) (.slice o2'.X1 o2'.x.give.w.ls.length o2'.c1) (.int .i64 o2'.x.give.w.ex) (.bool o2'.x.give.c.neg) (.slice o2'.X2 o2'.x.give.c.ls.length o2'.c2) (.int .i64 o2'.x.give.c.ex) (.bool o2'.x.give.a.neg) (.slice o2'.X3 o2'.x.give.a.ls.length o2'.c3) (.int .i64 o2'.x.give.a.ex), (c15_own uo2.out (Nat.lt_succ_self _) (.int .i64 o2'.x.nu) (.int .i64 o2'.x.ep) (.int .i64 o2'.x.cp) (.bool o2'.x.give.s.neg) (.slice o2'.X0 o2'.x.give.s.ls.length o2'.c0) (.int .i64 o2'.x.give.s.ex) (.bool o2'.x.give.w.neg) (.slice o2'.X1 o2'.x.give.w.ls.length o2'.c1) (.int .i64 o2'.x.give.w.ex) (.bool o2'.x.give.c.neg) (.slice o2'.X2 o2'.x.give.c.ls.length o2'.c2) (.int .i64 o2'.x.give.c.ex) (.bool o2'.x.give.a.neg) (.slice o2'.X3 o2'.x.give.a.ls.length o2'.c3) (.int .i64 o2'.x.give.a.ex)).map (fun h => h.base_le (Nat.zero_le _)), c15_blk kb.out (.int .i64 o2'.x.nu) (.int .i64 o2'.x.ep) (.int .i64 o2'.x.cp) (.bool o2'.x.give.s.neg) (.slice o2'.X0 o2'.x.give.s.ls.length o2'.c0) (.int .i64 o2'.x.give.s.ex) (.bool o2'.x.give.w.neg) (.slice o2'.X1 o2'.x.give.w.ls.length o2'.c1) (.int .i64 o2'.x.give.w.ex) (.bool o2'.x.give.c.neg) (.slice o2'.X2 o2'.x.give.c.ls.length o2'.c2) (.int .i64 o2'.x.give.c.ex) (.bool o2'.x.give.a.neg) (.slice o2'.X3 o2'.x.give.a.ls.length o2'.c3) (.int .i64 o2'.x.give.a.ex), c15_below gB.out (by have := gtb.out; omega) (.int .i64 o2'.x.nu) (.int .i64 o2'.x.ep) (.int .i64 o2'.x.cp) (.bool o2'.x.give.s.neg) (.slice o2'.X0 o2'.x.give.s.ls.length o2'.c0) (.int .i64 o2'.x.give.s.ex) (.bool o2'.x.give.w.neg) (.slice o2'.X1 o2'.x.give.w.ls.length o2'.c1) (.int .i64 o2'.x.give.w.ex) (.bool o2'.x.give.c.neg) (.slice o2'.X2 o2'.x.give.c.ls.length o2'.c2) (.int .i64 o2'.x.give.c.ex) (.bool o2'.x.give.a.neg) (.slice o2'.X3 o2'.x.give.a.ls.length o2'.c3) (.int .i64 o2'.x.give.a.ex)⟩
      have r0' : x4.cell? ⟨tb, 0, none⟩ = some (.int .i64 o1'.x.nu) := by rw [kb.out.cell]; rfl
      have r1' : x4.cell? ⟨tb, 1, none⟩ = some (.int .i64 o1'.x.ep) := by rw [kb.out.cell]; rfl
      have r2' : x4.cell? ⟨tb, 2, none⟩ = some (.int .i64 o1'.x.cp) := by rw [kb.out.cell]; rfl
      have r3' : x4.cell? ⟨tb, 3, none⟩ = some (.bool o1'.x.give.s.neg) := by rw [kb.out.cell]; rfl
      have r4' : x4.cell? ⟨tb, 4, none⟩ = some (.slice o1'.X0 o1'.x.give.s.ls.length o1'.c0) := by rw [kb.out.cell]; rfl
      have r5' : x4.cell? ⟨tb, 5, none⟩ = some (.int .i64 o1'.x.give.s.ex) := by rw [kb.out.cell]; rfl
      have r6' : x4.cell? ⟨tb, 6, none⟩ = some (.bool o1'.x.give.w.neg) := by rw [kb.out.cell]; rfl
      have r7' : x4.cell? ⟨tb, 7, none⟩ = some (.slice o1'.X1 o1'.x.give.w.ls.length o1'.c1) := by rw [kb.out.cell]; rfl
      have r8' : x4.cell? ⟨tb, 8, none⟩ = some (.int .i64 o1'.x.give.w.ex) := by rw [kb.out.cell]; rfl
      have r9' : x4.cell? ⟨tb, 9, none⟩ = some (.bool o1'.x.give.c.neg) := by rw [kb.out.cell]; rfl
      have r10' : x4.cell? ⟨tb, 10, none⟩ = some (.slice o1'.X2 o1'.x.give.c.ls.length o1'.c2) := by rw [kb.out.cell]; rfl
      have r11' : x4.cell? ⟨tb, 11, none⟩ = some (.int .i64 o1'.x.give.c.ex) := by rw [kb.out.cell]; rfl
      have r12' : x4.cell? ⟨tb, 12, none⟩ = some (.bool o1'.x.give.a.neg) := by rw [kb.out.cell]; rfl
      have r13' : x4.cell? ⟨tb, 13, none⟩ = some (.slice o1'.X3 o1'.x.give.a.ls.length o1'.c3) := by rw [kb.out.cell]; rfl
      have r14' : x4.cell? ⟨tb, 14, none⟩ = some (.int .i64 o1'.x.give.a.ex) := by rw [kb.out.cell]; rfl
      have f0' := kb.out.frozen 0
      have f1' := kb.out.frozen 1
      have f2' := kb.out.frozen 2
      have f3' := kb.out.frozen 3
      have f4' := kb.out.frozen 4
      have f5' := kb.out.frozen 5
      have f6' := kb.out.frozen 6
      have f7' := kb.out.frozen 7
      have f8' := kb.out.frozen 8
      have f9' := kb.out.frozen 9
      have f10' := kb.out.frozen 10
      have f11' := kb.out.frozen 11
      have f12' := kb.out.frozen 12
      have f13' := kb.out.frozen 13
      have f14' := kb.out.frozen 14
      go_wp2_with fail
      go_meet
      exact gf.out
  case rest =>
  obtain ⟨l', ox, E, A', n', c', rfl, rfl, hC, hr2, huo, hkb, hBc⟩ := hcut.out
  clear gC1 r2 uo1 kb
  have gC := Lib.hid hC
  have r2 := Lib.hid hr2
  have uo := Lib.hid huo
  have kb := Lib.hid hkb
  have hTc := Lib.hid (Tab.below gT0.out hBc gT0.out.2)
  have r1c := Lib.hid (Recs.more (Recs.below r10.out hBc) hBc.size)
  clear r1 gT gB
  have r1 := r1c
  have gT := hTc
  have gB := Lib.hid hBc
  clear r1c hTc hC hr2 huo hkb hBc hcut
  have gs2 := Lib.hid (cme_ok gs.out gC.out)
  have gl2 := Lib.hid (cme_lt hl gC.out)
  have hn2 : n' ≤ 10000 := by have h1 := gs2.out.1.1; have h2 := ens_len r2.out; have h3 := gln.out; have h4 := gG.out.1; omega
  go_wp2_with fail
  refine (fsum_any A n c l hn10 wc r1.out hl e2 gT.out).mono ?_
  rintro en x21 ⟨Ep, hchp, p, ep, rfl, op, hb⟩
  have gchp := Lib.hid hchp
  replace ep := Lib.hid ep
  have up := Lib.hid op.rd
  clear hchp op
  obtain ⟨Fp, hFp⟩ : ∃ F, lsE (fsA Ep e2) (sumFl l e2) = F := ⟨_, rfl⟩
  have gFp := Lib.hid hFp
  rw [hFp]
  clear hFp
  have sx21 : wc.heap.size ≤ x21.heap.size := hb.size
  replace gT := Lib.hid (Tab.below gT.out hb gT.out.2)
  replace r1 := Lib.hid (Recs.more (Recs.below r1.out hb) hb.size)
  replace r2 := Lib.hid (Recs.more (Recs.below r2.out hb) hb.size)
  replace uo := Lib.hid (uo.out.map (fun h => h.below hb))
  replace kb := Lib.hid (kb.out.below hb kb.out.lt)
  replace gB := Lib.hid (gB.out.trans (hb.mono gB.out.size))
  clear hb
  obtain ⟨tp, ht⟩ : ∃ t, t = x21.heap.size := ⟨_, rfl⟩
  obtain ⟨y21p, hy21p⟩ : ∃ W, W = x21.alloc (.cells #[.bool p.m.s.neg, .slice p.X0 p.m.s.ls.length p.c0, .int .i64 p.m.s.ex, .bool p.m.w.neg, .slice p.X1 p.m.w.ls.length p.c1, .int .i64 p.m.w.ex, .bool p.m.c.neg, .slice p.X2 p.m.c.ls.length p.c2, .int .i64 p.m.c.ex, .bool p.m.a.neg, .slice p.X3 p.m.a.ls.length p.c3, .int .i64 p.m.a.ex] 27) := ⟨_, rfl⟩
  have hb : Below x21.heap.size x21 y21p := by rw [hy21p]; exact (Below.refl _ _).alloc (Nat.le_refl _) _
  have kp : Blk y21p x21.heap.size 27 #[.bool p.m.s.neg, .slice p.X0 p.m.s.ls.length p.c0, .int .i64 p.m.s.ex, .bool p.m.w.neg, .slice p.X1 p.m.w.ls.length p.c1, .int .i64 p.m.w.ex, .bool p.m.c.neg, .slice p.X2 p.m.c.ls.length p.c2, .int .i64 p.m.c.ex, .bool p.m.a.neg, .slice p.X3 p.m.a.ls.length p.c3, .int .i64 p.m.a.ex] := by rw [hy21p]; exact Blk.new _ _ _
  rw [← ht] at kp
  replace kp := Lib.hid kp
  have sy21p : x21.heap.size ≤ y21p.heap.size := hb.size
  replace gT := Lib.hid (Tab.below gT.out hb gT.out.2)
  replace r1 := Lib.hid (Recs.more (Recs.below r1.out hb) hb.size)
  replace r2 := Lib.hid (Recs.more (Recs.below r2.out hb) hb.size)
  replace uo := Lib.hid (uo.out.map (fun h => h.below hb))
  replace kb := Lib.hid (kb.out.below hb kb.out.lt)
  replace up := Lib.hid (RdO.below up.out hb)
  replace gB := Lib.hid (gB.out.trans (hb.mono gB.out.size))
  clear hb
  go_wp2_with fail
  rw [← hy21p]
  clear hy21p
  rw [← ht]
  clear ht
  refine (fsum_any A' n' c' l' hn2 y21p r2.out gl2.out.1 e2 gT.out).mono ?_
  rintro en x22 ⟨Ez, hchz, z, ez, rfl, oz, hb⟩
  have gchz := Lib.hid hchz
  replace ez := Lib.hid ez
  have uz := Lib.hid oz.rd
  clear hchz oz
  obtain ⟨Fz, hFz⟩ : ∃ F, lsE (fsA Ez e2) (sumFl l' e2) = F := ⟨_, rfl⟩
  have gFz := Lib.hid hFz
  rw [hFz]
  clear hFz
  have sx22 : y21p.heap.size ≤ x22.heap.size := hb.size
  replace gT := Lib.hid (Tab.below gT.out hb gT.out.2)
  replace r1 := Lib.hid (Recs.more (Recs.below r1.out hb) hb.size)
  replace r2 := Lib.hid (Recs.more (Recs.below r2.out hb) hb.size)
  replace uo := Lib.hid (uo.out.map (fun h => h.below hb))
  replace kb := Lib.hid (kb.out.below hb kb.out.lt)
  replace up := Lib.hid (RdO.below up.out hb)
  replace kp := Lib.hid (kp.out.below hb kp.out.lt)
  replace gB := Lib.hid (gB.out.trans (hb.mono gB.out.size))
  clear hb
  obtain ⟨tz, ht⟩ : ∃ t, t = x22.heap.size := ⟨_, rfl⟩
  obtain ⟨y22z, hy22z⟩ : ∃ W, W = x22.alloc (.cells #[.bool z.m.s.neg, .slice z.X0 z.m.s.ls.length z.c0, .int .i64 z.m.s.ex, .bool z.m.w.neg, .slice z.X1 z.m.w.ls.length z.c1, .int .i64 z.m.w.ex, .bool z.m.c.neg, .slice z.X2 z.m.c.ls.length z.c2, .int .i64 z.m.c.ex, .bool z.m.a.neg, .slice z.X3 z.m.a.ls.length z.c3, .int .i64 z.m.a.ex] 27) := ⟨_, rfl⟩
  have hb : Below x22.heap.size x22 y22z := by rw [hy22z]; exact (Below.refl _ _).alloc (Nat.le_refl _) _
  have kz : Blk y22z x22.heap.size 27 #[.bool z.m.s.neg, .slice z.X0 z.m.s.ls.length z.c0, .int .i64 z.m.s.ex, .bool z.m.w.neg, .slice z.X1 z.m.w.ls.length z.c1, .int .i64 z.m.w.ex, .bool z.m.c.neg, .slice z.X2 z.m.c.ls.length z.c2, .int .i64 z.m.c.ex, .bool z.m.a.neg, .slice z.X3 z.m.a.ls.length z.c3, .int .i64 z.m.a.ex] := by rw [hy22z]; exact Blk.new _ _ _
  rw [← ht] at kz
  replace kz := Lib.hid kz
  have sy22z : x22.heap.size ≤ y22z.heap.size := hb.size
  replace gT := Lib.hid (Tab.below gT.out hb gT.out.2)
  replace r1 := Lib.hid (Recs.more (Recs.below r1.out hb) hb.size)
  replace r2 := Lib.hid (Recs.more (Recs.below r2.out hb) hb.size)
  replace uo := Lib.hid (uo.out.map (fun h => h.below hb))
  replace kb := Lib.hid (kb.out.below hb kb.out.lt)
  replace up := Lib.hid (RdO.below up.out hb)
  replace kp := Lib.hid (kp.out.below hb kp.out.lt)
  replace uz := Lib.hid (RdO.below uz.out hb)
  replace gB := Lib.hid (gB.out.trans (hb.mono gB.out.size))
  clear hb
  go_upto_region 9 with fail
  rw [← hy22z]
  clear hy22z
  rw [← ht]
  clear ht
  by_cases hE : E = 0
  rotate_left
  · have t1 : (E != 0) = true := bne_iff_ne.2 hE
    clear hE
    go_wp2
    go_ret
    exact ⟨rfl, gB.out⟩
  subst hE
  by_cases hF : Fp = 0
  rotate_left
  · have t1 : (Fp != 0) = true := bne_iff_ne.2 hF
    clear hF
    go_wp2
    go_ret
    exact ⟨rfl, gB.out⟩
  subst hF
  by_cases hG' : Fz = 0
  rotate_left
  · have t1 : (Fz != 0) = true := bne_iff_ne.2 hG'
    clear hG'
    go_wp2
    go_ret
    exact ⟨rfl, gB.out⟩
  subst hG'
  obtain ⟨_, d1, hd1, hd1'⟩ := lsE_cases' gFp.out
  obtain ⟨_, d2, hd2, hd2'⟩ := lsE_cases' gFz.out
  have ep' : Hid (p.m = d1) := Lib.hid (ep.out.trans hd1')
  have ez' : Hid (z.m = d2) := Lib.hid (ez.out.trans hd2')
  have gw := Lib.hid (whole_plain gC.out hd1 hd2)
  have ok1 := Lib.hid (sumL_ok hd1)
  have ok2 := Lib.hid (sumL_ok hd2)
  have gnone := Lib.hid (cme_none gC.out)
  clear hd1 hd1' hd2 hd2'
  by_cases hz : ox.x = zE
  · have hsame := Lib.hid (gw.out.1 (.inl hz))
    have gz := Lib.hid hz
    clear hz
    have q0 : y22z.cell? ⟨tb, 0, none⟩ = some (.int .i64 ox.x.nu) := by rw [kb.out.cell]; rfl
    have q1 : y22z.cell? ⟨tb, 1, none⟩ = some (.int .i64 ox.x.ep) := by rw [kb.out.cell]; rfl
    have q2 : y22z.cell? ⟨tb, 2, none⟩ = some (.int .i64 ox.x.cp) := by rw [kb.out.cell]; rfl
    have q3 : y22z.cell? ⟨tb, 3, none⟩ = some (.bool ox.x.give.s.neg) := by rw [kb.out.cell]; rfl
    have q4 : y22z.cell? ⟨tb, 4, none⟩ = some (.slice ox.X0 ox.x.give.s.ls.length ox.c0) := by rw [kb.out.cell]; rfl
    have q5 : y22z.cell? ⟨tb, 5, none⟩ = some (.int .i64 ox.x.give.s.ex) := by rw [kb.out.cell]; rfl
    have q6 : y22z.cell? ⟨tb, 6, none⟩ = some (.bool ox.x.give.w.neg) := by rw [kb.out.cell]; rfl
    have q7 : y22z.cell? ⟨tb, 7, none⟩ = some (.slice ox.X1 ox.x.give.w.ls.length ox.c1) := by rw [kb.out.cell]; rfl
    have q8 : y22z.cell? ⟨tb, 8, none⟩ = some (.int .i64 ox.x.give.w.ex) := by rw [kb.out.cell]; rfl
    have q9 : y22z.cell? ⟨tb, 9, none⟩ = some (.bool ox.x.give.c.neg) := by rw [kb.out.cell]; rfl
    have q10 : y22z.cell? ⟨tb, 10, none⟩ = some (.slice ox.X2 ox.x.give.c.ls.length ox.c2) := by rw [kb.out.cell]; rfl
    have q11 : y22z.cell? ⟨tb, 11, none⟩ = some (.int .i64 ox.x.give.c.ex) := by rw [kb.out.cell]; rfl
    have q12 : y22z.cell? ⟨tb, 12, none⟩ = some (.bool ox.x.give.a.neg) := by rw [kb.out.cell]; rfl
    have q13 : y22z.cell? ⟨tb, 13, none⟩ = some (.slice ox.X3 ox.x.give.a.ls.length ox.c3) := by rw [kb.out.cell]; rfl
    have q14 : y22z.cell? ⟨tb, 14, none⟩ = some (.int .i64 ox.x.give.a.ex) := by rw [kb.out.cell]; rfl
    go_wp2_with fail
    refine (none_any ox gs2.out.2 y22z 0 uo.out true (.inr ⟨rfl, gz.out⟩)).mono ?_
    rintro en x23 ⟨rfl, hb⟩
    have sx23 : y22z.heap.size ≤ x23.heap.size := hb.size
    replace gT := Lib.hid (Tab.below gT.out hb gT.out.2)
    replace r1 := Lib.hid (Recs.more (Recs.below r1.out hb) hb.size)
    replace r2 := Lib.hid (Recs.more (Recs.below r2.out hb) hb.size)
    replace uo := Lib.hid (uo.out.map (fun h => h.below hb))
    replace kb := Lib.hid (kb.out.below hb kb.out.lt)
    replace up := Lib.hid (RdO.below up.out hb)
    replace kp := Lib.hid (kp.out.below hb kp.out.lt)
    replace uz := Lib.hid (RdO.below uz.out hb)
    replace kz := Lib.hid (kz.out.below hb kz.out.lt)
    replace gB := Lib.hid (gB.out.trans (hb.mono gB.out.size))
    clear hb
    clear q0 q1 q2 q3 q4 q5 q6 q7 q8 q9 q10 q11 q12 q13 q14
    have z0 : x23.cell? ⟨tp, 0, none⟩ = some (.bool p.m.s.neg) := by rw [kp.out.cell]; rfl
    have z1 : x23.cell? ⟨tp, 1, none⟩ = some (.slice p.X0 p.m.s.ls.length p.c0) := by rw [kp.out.cell]; rfl
    have z2 : x23.cell? ⟨tp, 2, none⟩ = some (.int .i64 p.m.s.ex) := by rw [kp.out.cell]; rfl
    have z3 : x23.cell? ⟨tp, 3, none⟩ = some (.bool p.m.w.neg) := by rw [kp.out.cell]; rfl
    have z4 : x23.cell? ⟨tp, 4, none⟩ = some (.slice p.X1 p.m.w.ls.length p.c1) := by rw [kp.out.cell]; rfl
    have z5 : x23.cell? ⟨tp, 5, none⟩ = some (.int .i64 p.m.w.ex) := by rw [kp.out.cell]; rfl
    have z6 : x23.cell? ⟨tp, 6, none⟩ = some (.bool p.m.c.neg) := by rw [kp.out.cell]; rfl
    have z7 : x23.cell? ⟨tp, 7, none⟩ = some (.slice p.X2 p.m.c.ls.length p.c2) := by rw [kp.out.cell]; rfl
    have z8 : x23.cell? ⟨tp, 8, none⟩ = some (.int .i64 p.m.c.ex) := by rw [kp.out.cell]; rfl
    have z9 : x23.cell? ⟨tp, 9, none⟩ = some (.bool p.m.a.neg) := by rw [kp.out.cell]; rfl
    have z10 : x23.cell? ⟨tp, 10, none⟩ = some (.slice p.X3 p.m.a.ls.length p.c3) := by rw [kp.out.cell]; rfl
    have z11 : x23.cell? ⟨tp, 11, none⟩ = some (.int .i64 p.m.a.ex) := by rw [kp.out.cell]; rfl
    have a0 : x23.cell? ⟨tz, 0, none⟩ = some (.bool z.m.s.neg) := by rw [kz.out.cell]; rfl
    have a1 : x23.cell? ⟨tz, 1, none⟩ = some (.slice z.X0 z.m.s.ls.length z.c0) := by rw [kz.out.cell]; rfl
    have a2 : x23.cell? ⟨tz, 2, none⟩ = some (.int .i64 z.m.s.ex) := by rw [kz.out.cell]; rfl
    have a3 : x23.cell? ⟨tz, 3, none⟩ = some (.bool z.m.w.neg) := by rw [kz.out.cell]; rfl
    have a4 : x23.cell? ⟨tz, 4, none⟩ = some (.slice z.X1 z.m.w.ls.length z.c1) := by rw [kz.out.cell]; rfl
    have a5 : x23.cell? ⟨tz, 5, none⟩ = some (.int .i64 z.m.w.ex) := by rw [kz.out.cell]; rfl
    have a6 : x23.cell? ⟨tz, 6, none⟩ = some (.bool z.m.c.neg) := by rw [kz.out.cell]; rfl
    have a7 : x23.cell? ⟨tz, 7, none⟩ = some (.slice z.X2 z.m.c.ls.length z.c2) := by rw [kz.out.cell]; rfl
    have a8 : x23.cell? ⟨tz, 8, none⟩ = some (.int .i64 z.m.c.ex) := by rw [kz.out.cell]; rfl
    have a9 : x23.cell? ⟨tz, 9, none⟩ = some (.bool z.m.a.neg) := by rw [kz.out.cell]; rfl
    have a10 : x23.cell? ⟨tz, 10, none⟩ = some (.slice z.X3 z.m.a.ls.length z.c3) := by rw [kz.out.cell]; rfl
    have a11 : x23.cell? ⟨tz, 11, none⟩ = some (.int .i64 z.m.a.ex) := by rw [kz.out.cell]; rfl
    go_wp2_with fail
    refine (msame_any p.m.s.neg p.X0 p.m.s.ls.length p.c0 p.m.s.ex p.m.w.neg p.X1 p.m.w.ls.length p.c1 p.m.w.ex p.m.c.neg p.X2 p.m.c.ls.length p.c2 p.m.c.ex p.m.a.neg p.X3 p.m.a.ls.length p.c3 p.m.a.ex z.m.s.neg z.X0 z.m.s.ls.length z.c0 z.m.s.ex z.m.w.neg z.X1 z.m.w.ls.length z.c1 z.m.w.ex z.m.c.neg z.X2 z.m.c.ls.length z.c2 z.m.c.ex z.m.a.neg z.X3 z.m.a.ls.length z.c3 z.m.a.ex p.m z.m (by rw [ep'.out]; exact ok1.out.sm) (by rw [ez'.out]; exact ok2.out.sm) x23 up.out uz.out true (decide_eq_true (by rw [ep'.out, ez'.out]; exact hsame.out))).mono ?_
    rintro en x24 ⟨rfl, hb⟩
    have sx24 : x23.heap.size ≤ x24.heap.size := hb.size
    replace gT := Lib.hid (Tab.below gT.out hb gT.out.2)
    replace r1 := Lib.hid (Recs.more (Recs.below r1.out hb) hb.size)
    replace r2 := Lib.hid (Recs.more (Recs.below r2.out hb) hb.size)
    replace uo := Lib.hid (uo.out.map (fun h => h.below hb))
    replace kb := Lib.hid (kb.out.below hb kb.out.lt)
    replace up := Lib.hid (RdO.below up.out hb)
    replace kp := Lib.hid (kp.out.below hb kp.out.lt)
    replace uz := Lib.hid (RdO.below uz.out hb)
    replace kz := Lib.hid (kz.out.below hb kz.out.lt)
    replace gB := Lib.hid (gB.out.trans (hb.mono gB.out.size))
    clear hb
    clear z0 z1 z2 z3 z4 z5 z6 z7 z8 z9 z10 z11 a0 a1 a2 a3 a4 a5 a6 a7 a8 a9 a10 a11
    go_wp2
    go_ret
    exact ⟨rfl, gB.out⟩
  have hcp := Lib.hid (gnone.out.resolve_left hz)
  have gz := Lib.hid hz
  clear hz
  have q0 : y22z.cell? ⟨tb, 0, none⟩ = some (.int .i64 ox.x.nu) := by rw [kb.out.cell]; rfl
  have q1 : y22z.cell? ⟨tb, 1, none⟩ = some (.int .i64 ox.x.ep) := by rw [kb.out.cell]; rfl
  have q2 : y22z.cell? ⟨tb, 2, none⟩ = some (.int .i64 ox.x.cp) := by rw [kb.out.cell]; rfl
  have q3 : y22z.cell? ⟨tb, 3, none⟩ = some (.bool ox.x.give.s.neg) := by rw [kb.out.cell]; rfl
  have q4 : y22z.cell? ⟨tb, 4, none⟩ = some (.slice ox.X0 ox.x.give.s.ls.length ox.c0) := by rw [kb.out.cell]; rfl
  have q5 : y22z.cell? ⟨tb, 5, none⟩ = some (.int .i64 ox.x.give.s.ex) := by rw [kb.out.cell]; rfl
  have q6 : y22z.cell? ⟨tb, 6, none⟩ = some (.bool ox.x.give.w.neg) := by rw [kb.out.cell]; rfl
  have q7 : y22z.cell? ⟨tb, 7, none⟩ = some (.slice ox.X1 ox.x.give.w.ls.length ox.c1) := by rw [kb.out.cell]; rfl
  have q8 : y22z.cell? ⟨tb, 8, none⟩ = some (.int .i64 ox.x.give.w.ex) := by rw [kb.out.cell]; rfl
  have q9 : y22z.cell? ⟨tb, 9, none⟩ = some (.bool ox.x.give.c.neg) := by rw [kb.out.cell]; rfl
  have q10 : y22z.cell? ⟨tb, 10, none⟩ = some (.slice ox.X2 ox.x.give.c.ls.length ox.c2) := by rw [kb.out.cell]; rfl
  have q11 : y22z.cell? ⟨tb, 11, none⟩ = some (.int .i64 ox.x.give.c.ex) := by rw [kb.out.cell]; rfl
  have q12 : y22z.cell? ⟨tb, 12, none⟩ = some (.bool ox.x.give.a.neg) := by rw [kb.out.cell]; rfl
  have q13 : y22z.cell? ⟨tb, 13, none⟩ = some (.slice ox.X3 ox.x.give.a.ls.length ox.c3) := by rw [kb.out.cell]; rfl
  have q14 : y22z.cell? ⟨tb, 14, none⟩ = some (.int .i64 ox.x.give.a.ex) := by rw [kb.out.cell]; rfl
  go_wp2_with fail
  refine (none_any ox gs2.out.2 y22z 0 uo.out false (.inl ⟨rfl, hcp.out⟩)).mono ?_
  rintro en x23 ⟨rfl, hb⟩
  have sx23 : y22z.heap.size ≤ x23.heap.size := hb.size
  replace gT := Lib.hid (Tab.below gT.out hb gT.out.2)
  replace r1 := Lib.hid (Recs.more (Recs.below r1.out hb) hb.size)
  replace r2 := Lib.hid (Recs.more (Recs.below r2.out hb) hb.size)
  replace uo := Lib.hid (uo.out.map (fun h => h.below hb))
  replace kb := Lib.hid (kb.out.below hb kb.out.lt)
  replace up := Lib.hid (RdO.below up.out hb)
  replace kp := Lib.hid (kp.out.below hb kp.out.lt)
  replace uz := Lib.hid (RdO.below uz.out hb)
  replace kz := Lib.hid (kz.out.below hb kz.out.lt)
  replace gB := Lib.hid (gB.out.trans (hb.mono gB.out.size))
  clear hb
  clear q0 q1 q2 q3 q4 q5 q6 q7 q8 q9 q10 q11 q12 q13 q14
  by_cases hep : ox.x.ep = e2
  rotate_left
  · have hsame := Lib.hid (gw.out.1 (.inr hep))
    have t1 : (ox.x.ep != e2) = true := bne_iff_ne.2 hep
    clear hep
    have q0 : x23.cell? ⟨tb, 0, none⟩ = some (.int .i64 ox.x.nu) := by rw [kb.out.cell]; rfl
    have q1 : x23.cell? ⟨tb, 1, none⟩ = some (.int .i64 ox.x.ep) := by rw [kb.out.cell]; rfl
    have q2 : x23.cell? ⟨tb, 2, none⟩ = some (.int .i64 ox.x.cp) := by rw [kb.out.cell]; rfl
    have q3 : x23.cell? ⟨tb, 3, none⟩ = some (.bool ox.x.give.s.neg) := by rw [kb.out.cell]; rfl
    have q4 : x23.cell? ⟨tb, 4, none⟩ = some (.slice ox.X0 ox.x.give.s.ls.length ox.c0) := by rw [kb.out.cell]; rfl
    have q5 : x23.cell? ⟨tb, 5, none⟩ = some (.int .i64 ox.x.give.s.ex) := by rw [kb.out.cell]; rfl
    have q6 : x23.cell? ⟨tb, 6, none⟩ = some (.bool ox.x.give.w.neg) := by rw [kb.out.cell]; rfl
    have q7 : x23.cell? ⟨tb, 7, none⟩ = some (.slice ox.X1 ox.x.give.w.ls.length ox.c1) := by rw [kb.out.cell]; rfl
    have q8 : x23.cell? ⟨tb, 8, none⟩ = some (.int .i64 ox.x.give.w.ex) := by rw [kb.out.cell]; rfl
    have q9 : x23.cell? ⟨tb, 9, none⟩ = some (.bool ox.x.give.c.neg) := by rw [kb.out.cell]; rfl
    have q10 : x23.cell? ⟨tb, 10, none⟩ = some (.slice ox.X2 ox.x.give.c.ls.length ox.c2) := by rw [kb.out.cell]; rfl
    have q11 : x23.cell? ⟨tb, 11, none⟩ = some (.int .i64 ox.x.give.c.ex) := by rw [kb.out.cell]; rfl
    have q12 : x23.cell? ⟨tb, 12, none⟩ = some (.bool ox.x.give.a.neg) := by rw [kb.out.cell]; rfl
    have q13 : x23.cell? ⟨tb, 13, none⟩ = some (.slice ox.X3 ox.x.give.a.ls.length ox.c3) := by rw [kb.out.cell]; rfl
    have q14 : x23.cell? ⟨tb, 14, none⟩ = some (.int .i64 ox.x.give.a.ex) := by rw [kb.out.cell]; rfl
    have z0 : x23.cell? ⟨tp, 0, none⟩ = some (.bool p.m.s.neg) := by rw [kp.out.cell]; rfl
    have z1 : x23.cell? ⟨tp, 1, none⟩ = some (.slice p.X0 p.m.s.ls.length p.c0) := by rw [kp.out.cell]; rfl
    have z2 : x23.cell? ⟨tp, 2, none⟩ = some (.int .i64 p.m.s.ex) := by rw [kp.out.cell]; rfl
    have z3 : x23.cell? ⟨tp, 3, none⟩ = some (.bool p.m.w.neg) := by rw [kp.out.cell]; rfl
    have z4 : x23.cell? ⟨tp, 4, none⟩ = some (.slice p.X1 p.m.w.ls.length p.c1) := by rw [kp.out.cell]; rfl
    have z5 : x23.cell? ⟨tp, 5, none⟩ = some (.int .i64 p.m.w.ex) := by rw [kp.out.cell]; rfl
    have z6 : x23.cell? ⟨tp, 6, none⟩ = some (.bool p.m.c.neg) := by rw [kp.out.cell]; rfl
    have z7 : x23.cell? ⟨tp, 7, none⟩ = some (.slice p.X2 p.m.c.ls.length p.c2) := by rw [kp.out.cell]; rfl
    have z8 : x23.cell? ⟨tp, 8, none⟩ = some (.int .i64 p.m.c.ex) := by rw [kp.out.cell]; rfl
    have z9 : x23.cell? ⟨tp, 9, none⟩ = some (.bool p.m.a.neg) := by rw [kp.out.cell]; rfl
    have z10 : x23.cell? ⟨tp, 10, none⟩ = some (.slice p.X3 p.m.a.ls.length p.c3) := by rw [kp.out.cell]; rfl
    have z11 : x23.cell? ⟨tp, 11, none⟩ = some (.int .i64 p.m.a.ex) := by rw [kp.out.cell]; rfl
    have a0 : x23.cell? ⟨tz, 0, none⟩ = some (.bool z.m.s.neg) := by rw [kz.out.cell]; rfl
    have a1 : x23.cell? ⟨tz, 1, none⟩ = some (.slice z.X0 z.m.s.ls.length z.c0) := by rw [kz.out.cell]; rfl
    have a2 : x23.cell? ⟨tz, 2, none⟩ = some (.int .i64 z.m.s.ex) := by rw [kz.out.cell]; rfl
    have a3 : x23.cell? ⟨tz, 3, none⟩ = some (.bool z.m.w.neg) := by rw [kz.out.cell]; rfl
    have a4 : x23.cell? ⟨tz, 4, none⟩ = some (.slice z.X1 z.m.w.ls.length z.c1) := by rw [kz.out.cell]; rfl
    have a5 : x23.cell? ⟨tz, 5, none⟩ = some (.int .i64 z.m.w.ex) := by rw [kz.out.cell]; rfl
    have a6 : x23.cell? ⟨tz, 6, none⟩ = some (.bool z.m.c.neg) := by rw [kz.out.cell]; rfl
    have a7 : x23.cell? ⟨tz, 7, none⟩ = some (.slice z.X2 z.m.c.ls.length z.c2) := by rw [kz.out.cell]; rfl
    have a8 : x23.cell? ⟨tz, 8, none⟩ = some (.int .i64 z.m.c.ex) := by rw [kz.out.cell]; rfl
    have a9 : x23.cell? ⟨tz, 9, none⟩ = some (.bool z.m.a.neg) := by rw [kz.out.cell]; rfl
    have a10 : x23.cell? ⟨tz, 10, none⟩ = some (.slice z.X3 z.m.a.ls.length z.c3) := by rw [kz.out.cell]; rfl
    have a11 : x23.cell? ⟨tz, 11, none⟩ = some (.int .i64 z.m.a.ex) := by rw [kz.out.cell]; rfl
    go_wp2_with fail
    refine (msame_any p.m.s.neg p.X0 p.m.s.ls.length p.c0 p.m.s.ex p.m.w.neg p.X1 p.m.w.ls.length p.c1 p.m.w.ex p.m.c.neg p.X2 p.m.c.ls.length p.c2 p.m.c.ex p.m.a.neg p.X3 p.m.a.ls.length p.c3 p.m.a.ex z.m.s.neg z.X0 z.m.s.ls.length z.c0 z.m.s.ex z.m.w.neg z.X1 z.m.w.ls.length z.c1 z.m.w.ex z.m.c.neg z.X2 z.m.c.ls.length z.c2 z.m.c.ex z.m.a.neg z.X3 z.m.a.ls.length z.c3 z.m.a.ex p.m z.m (by rw [ep'.out]; exact ok1.out.sm) (by rw [ez'.out]; exact ok2.out.sm) x23 up.out uz.out true (decide_eq_true (by rw [ep'.out, ez'.out]; exact hsame.out))).mono ?_
    rintro en x24 ⟨rfl, hb⟩
    have sx24 : x23.heap.size ≤ x24.heap.size := hb.size
    replace gT := Lib.hid (Tab.below gT.out hb gT.out.2)
    replace r1 := Lib.hid (Recs.more (Recs.below r1.out hb) hb.size)
    replace r2 := Lib.hid (Recs.more (Recs.below r2.out hb) hb.size)
    replace uo := Lib.hid (uo.out.map (fun h => h.below hb))
    replace kb := Lib.hid (kb.out.below hb kb.out.lt)
    replace up := Lib.hid (RdO.below up.out hb)
    replace kp := Lib.hid (kp.out.below hb kp.out.lt)
    replace uz := Lib.hid (RdO.below uz.out hb)
    replace kz := Lib.hid (kz.out.below hb kz.out.lt)
    replace gB := Lib.hid (gB.out.trans (hb.mono gB.out.size))
    clear hb
    clear z0 z1 z2 z3 z4 z5 z6 z7 z8 z9 z10 z11 a0 a1 a2 a3 a4 a5 a6 a7 a8 a9 a10 a11
    go_wp2
    go_ret
    exact ⟨rfl, gB.out⟩
  have t1 : (ox.x.ep != e2) = false := bne_eq_false_iff_eq.2 hep
  have gep := Lib.hid hep
  clear hep
  obtain ⟨Hh, hH⟩ : ∃ Hh, maE z.m ox.x.give = Hh := ⟨_, rfl⟩
  have gH := Lib.hid hH
  clear hH
  have q0 : x23.cell? ⟨tb, 0, none⟩ = some (.int .i64 ox.x.nu) := by rw [kb.out.cell]; rfl
  have q1 : x23.cell? ⟨tb, 1, none⟩ = some (.int .i64 ox.x.ep) := by rw [kb.out.cell]; rfl
  have q2 : x23.cell? ⟨tb, 2, none⟩ = some (.int .i64 ox.x.cp) := by rw [kb.out.cell]; rfl
  have q3 : x23.cell? ⟨tb, 3, none⟩ = some (.bool ox.x.give.s.neg) := by rw [kb.out.cell]; rfl
  have q4 : x23.cell? ⟨tb, 4, none⟩ = some (.slice ox.X0 ox.x.give.s.ls.length ox.c0) := by rw [kb.out.cell]; rfl
  have q5 : x23.cell? ⟨tb, 5, none⟩ = some (.int .i64 ox.x.give.s.ex) := by rw [kb.out.cell]; rfl
  have q6 : x23.cell? ⟨tb, 6, none⟩ = some (.bool ox.x.give.w.neg) := by rw [kb.out.cell]; rfl
  have q7 : x23.cell? ⟨tb, 7, none⟩ = some (.slice ox.X1 ox.x.give.w.ls.length ox.c1) := by rw [kb.out.cell]; rfl
  have q8 : x23.cell? ⟨tb, 8, none⟩ = some (.int .i64 ox.x.give.w.ex) := by rw [kb.out.cell]; rfl
  have q9 : x23.cell? ⟨tb, 9, none⟩ = some (.bool ox.x.give.c.neg) := by rw [kb.out.cell]; rfl
  have q10 : x23.cell? ⟨tb, 10, none⟩ = some (.slice ox.X2 ox.x.give.c.ls.length ox.c2) := by rw [kb.out.cell]; rfl
  have q11 : x23.cell? ⟨tb, 11, none⟩ = some (.int .i64 ox.x.give.c.ex) := by rw [kb.out.cell]; rfl
  have q12 : x23.cell? ⟨tb, 12, none⟩ = some (.bool ox.x.give.a.neg) := by rw [kb.out.cell]; rfl
  have q13 : x23.cell? ⟨tb, 13, none⟩ = some (.slice ox.X3 ox.x.give.a.ls.length ox.c3) := by rw [kb.out.cell]; rfl
  have q14 : x23.cell? ⟨tb, 14, none⟩ = some (.int .i64 ox.x.give.a.ex) := by rw [kb.out.cell]; rfl
  go_upto_region 13 with fail
  clear t1
  have a0 : x23.cell? ⟨tz, 0, none⟩ = some (.bool z.m.s.neg) := by rw [kz.out.cell]; rfl
  have a1 : x23.cell? ⟨tz, 1, none⟩ = some (.slice z.X0 z.m.s.ls.length z.c0) := by rw [kz.out.cell]; rfl
  have a2 : x23.cell? ⟨tz, 2, none⟩ = some (.int .i64 z.m.s.ex) := by rw [kz.out.cell]; rfl
  have a3 : x23.cell? ⟨tz, 3, none⟩ = some (.bool z.m.w.neg) := by rw [kz.out.cell]; rfl
  have a4 : x23.cell? ⟨tz, 4, none⟩ = some (.slice z.X1 z.m.w.ls.length z.c1) := by rw [kz.out.cell]; rfl
  have a5 : x23.cell? ⟨tz, 5, none⟩ = some (.int .i64 z.m.w.ex) := by rw [kz.out.cell]; rfl
  have a6 : x23.cell? ⟨tz, 6, none⟩ = some (.bool z.m.c.neg) := by rw [kz.out.cell]; rfl
  have a7 : x23.cell? ⟨tz, 7, none⟩ = some (.slice z.X2 z.m.c.ls.length z.c2) := by rw [kz.out.cell]; rfl
  have a8 : x23.cell? ⟨tz, 8, none⟩ = some (.int .i64 z.m.c.ex) := by rw [kz.out.cell]; rfl
  have a9 : x23.cell? ⟨tz, 9, none⟩ = some (.bool z.m.a.neg) := by rw [kz.out.cell]; rfl
  have a10 : x23.cell? ⟨tz, 10, none⟩ = some (.slice z.X3 z.m.a.ls.length z.c3) := by rw [kz.out.cell]; rfl
  have a11 : x23.cell? ⟨tz, 11, none⟩ = some (.int .i64 z.m.a.ex) := by rw [kz.out.cell]; rfl
  have c0' : x23.cell? ⟨tb, 3, none⟩ = some (.bool ox.x.give.s.neg) := by rw [kb.out.cell]; rfl
  have c1' : x23.cell? ⟨tb, 3 + 1, none⟩ = some (.slice ox.X0 ox.x.give.s.ls.length ox.c0) := by rw [kb.out.cell]; rfl
  have c2' : x23.cell? ⟨tb, 3 + 2, none⟩ = some (.int .i64 ox.x.give.s.ex) := by rw [kb.out.cell]; rfl
  have c3' : x23.cell? ⟨tb, 3 + 3, none⟩ = some (.bool ox.x.give.w.neg) := by rw [kb.out.cell]; rfl
  have c4' : x23.cell? ⟨tb, 3 + 4, none⟩ = some (.slice ox.X1 ox.x.give.w.ls.length ox.c1) := by rw [kb.out.cell]; rfl
  have c5' : x23.cell? ⟨tb, 3 + 5, none⟩ = some (.int .i64 ox.x.give.w.ex) := by rw [kb.out.cell]; rfl
  have c6' : x23.cell? ⟨tb, 3 + 6, none⟩ = some (.bool ox.x.give.c.neg) := by rw [kb.out.cell]; rfl
  have c7' : x23.cell? ⟨tb, 3 + 7, none⟩ = some (.slice ox.X2 ox.x.give.c.ls.length ox.c2) := by rw [kb.out.cell]; rfl
  have c8' : x23.cell? ⟨tb, 3 + 8, none⟩ = some (.int .i64 ox.x.give.c.ex) := by rw [kb.out.cell]; rfl
  have c9' : x23.cell? ⟨tb, 3 + 9, none⟩ = some (.bool ox.x.give.a.neg) := by rw [kb.out.cell]; rfl
  have c10' : x23.cell? ⟨tb, 3 + 10, none⟩ = some (.slice ox.X3 ox.x.give.a.ls.length ox.c3) := by rw [kb.out.cell]; rfl
  have c11' : x23.cell? ⟨tb, 3 + 11, none⟩ = some (.int .i64 ox.x.give.a.ex) := by rw [kb.out.cell]; rfl
  go_wp2_with fail
  refine (madd_any z.m ox.x.give (by rw [ez'.out]; exact ok2.out.lt) gl2.out.2 z.X0 z.c0 z.X1 z.c1 z.X2 z.c2 z.X3 z.c3 ox.X0 ox.c0 ox.X1 ox.c1 ox.X2 ox.c2 ox.X3 ox.c3 x23 uz.out uo.out.rdM gT.out).mono ?_
  rintro en x24 hP
  obtain ⟨v, ev, he, ov, hb⟩ := madd_one hP
  rw [gH.out] at he
  subst he
  clear hP
  replace ev := Lib.hid ev
  have uv := Lib.hid ov.rd
  clear ov
  have sx24 : x23.heap.size ≤ x24.heap.size := hb.size
  replace gT := Lib.hid (Tab.below gT.out hb gT.out.2)
  replace r1 := Lib.hid (Recs.more (Recs.below r1.out hb) hb.size)
  replace r2 := Lib.hid (Recs.more (Recs.below r2.out hb) hb.size)
  replace uo := Lib.hid (uo.out.map (fun h => h.below hb))
  replace kb := Lib.hid (kb.out.below hb kb.out.lt)
  replace up := Lib.hid (RdO.below up.out hb)
  replace kp := Lib.hid (kp.out.below hb kp.out.lt)
  replace uz := Lib.hid (RdO.below uz.out hb)
  replace kz := Lib.hid (kz.out.below hb kz.out.lt)
  replace gB := Lib.hid (gB.out.trans (hb.mono gB.out.size))
  clear hb
  clear q0 q1 q2 q3 q4 q5 q6 q7 q8 q9 q10 q11 q12 q13 q14
  clear a0 a1 a2 a3 a4 a5 a6 a7 a8 a9 a10 a11
  clear c0' c1' c2' c3' c4' c5' c6' c7' c8' c9' c10' c11'
  obtain ⟨tv, ht⟩ : ∃ t, t = x24.heap.size := ⟨_, rfl⟩
  obtain ⟨y24v, hy24v⟩ : ∃ W, W = x24.alloc (.cells #[.bool v.m.s.neg, .slice v.X0 v.m.s.ls.length v.c0, .int .i64 v.m.s.ex, .bool v.m.w.neg, .slice v.X1 v.m.w.ls.length v.c1, .int .i64 v.m.w.ex, .bool v.m.c.neg, .slice v.X2 v.m.c.ls.length v.c2, .int .i64 v.m.c.ex, .bool v.m.a.neg, .slice v.X3 v.m.a.ls.length v.c3, .int .i64 v.m.a.ex] 27) := ⟨_, rfl⟩
  have hb : Below x24.heap.size x24 y24v := by rw [hy24v]; exact (Below.refl _ _).alloc (Nat.le_refl _) _
  have kv : Blk y24v x24.heap.size 27 #[.bool v.m.s.neg, .slice v.X0 v.m.s.ls.length v.c0, .int .i64 v.m.s.ex, .bool v.m.w.neg, .slice v.X1 v.m.w.ls.length v.c1, .int .i64 v.m.w.ex, .bool v.m.c.neg, .slice v.X2 v.m.c.ls.length v.c2, .int .i64 v.m.c.ex, .bool v.m.a.neg, .slice v.X3 v.m.a.ls.length v.c3, .int .i64 v.m.a.ex] := by rw [hy24v]; exact Blk.new _ _ _
  rw [← ht] at kv
  replace kv := Lib.hid kv
  have sy24v : x24.heap.size ≤ y24v.heap.size := hb.size
  replace gT := Lib.hid (Tab.below gT.out hb gT.out.2)
  replace r1 := Lib.hid (Recs.more (Recs.below r1.out hb) hb.size)
  replace r2 := Lib.hid (Recs.more (Recs.below r2.out hb) hb.size)
  replace uo := Lib.hid (uo.out.map (fun h => h.below hb))
  replace kb := Lib.hid (kb.out.below hb kb.out.lt)
  replace up := Lib.hid (RdO.below up.out hb)
  replace kp := Lib.hid (kp.out.below hb kp.out.lt)
  replace uz := Lib.hid (RdO.below uz.out hb)
  replace kz := Lib.hid (kz.out.below hb kz.out.lt)
  replace uv := Lib.hid (RdO.below uv.out hb)
  replace gB := Lib.hid (gB.out.trans (hb.mono gB.out.size))
  clear hb
  go_upto_region 14 with fail
  rw [← hy24v]
  clear hy24v
  rw [← ht]
  clear ht
  by_cases h0 : Hh = 0
  rotate_left
  · have t1 : (Hh != 0) = true := bne_iff_ne.2 h0
    clear h0
    go_wp2
    go_ret
    exact ⟨rfl, gB.out⟩
  subst h0
  obtain ⟨d, hd, hd'⟩ := maE_zero gH.out
  have hsame : Hid (v.m = p.m) := Lib.hid (by rw [ev.out, hd', ep'.out]; rw [ez'.out] at hd; exact gw.out.2 gep.out gz.out d hd)
  clear hd hd'
  have z0 : y24v.cell? ⟨tv, 0, none⟩ = some (.bool v.m.s.neg) := by rw [kv.out.cell]; rfl
  have z1 : y24v.cell? ⟨tv, 1, none⟩ = some (.slice v.X0 v.m.s.ls.length v.c0) := by rw [kv.out.cell]; rfl
  have z2 : y24v.cell? ⟨tv, 2, none⟩ = some (.int .i64 v.m.s.ex) := by rw [kv.out.cell]; rfl
  have z3 : y24v.cell? ⟨tv, 3, none⟩ = some (.bool v.m.w.neg) := by rw [kv.out.cell]; rfl
  have z4 : y24v.cell? ⟨tv, 4, none⟩ = some (.slice v.X1 v.m.w.ls.length v.c1) := by rw [kv.out.cell]; rfl
  have z5 : y24v.cell? ⟨tv, 5, none⟩ = some (.int .i64 v.m.w.ex) := by rw [kv.out.cell]; rfl
  have z6 : y24v.cell? ⟨tv, 6, none⟩ = some (.bool v.m.c.neg) := by rw [kv.out.cell]; rfl
  have z7 : y24v.cell? ⟨tv, 7, none⟩ = some (.slice v.X2 v.m.c.ls.length v.c2) := by rw [kv.out.cell]; rfl
  have z8 : y24v.cell? ⟨tv, 8, none⟩ = some (.int .i64 v.m.c.ex) := by rw [kv.out.cell]; rfl
  have z9 : y24v.cell? ⟨tv, 9, none⟩ = some (.bool v.m.a.neg) := by rw [kv.out.cell]; rfl
  have z10 : y24v.cell? ⟨tv, 10, none⟩ = some (.slice v.X3 v.m.a.ls.length v.c3) := by rw [kv.out.cell]; rfl
  have z11 : y24v.cell? ⟨tv, 11, none⟩ = some (.int .i64 v.m.a.ex) := by rw [kv.out.cell]; rfl
  have a0 : y24v.cell? ⟨tp, 0, none⟩ = some (.bool p.m.s.neg) := by rw [kp.out.cell]; rfl
  have a1 : y24v.cell? ⟨tp, 1, none⟩ = some (.slice p.X0 p.m.s.ls.length p.c0) := by rw [kp.out.cell]; rfl
  have a2 : y24v.cell? ⟨tp, 2, none⟩ = some (.int .i64 p.m.s.ex) := by rw [kp.out.cell]; rfl
  have a3 : y24v.cell? ⟨tp, 3, none⟩ = some (.bool p.m.w.neg) := by rw [kp.out.cell]; rfl
  have a4 : y24v.cell? ⟨tp, 4, none⟩ = some (.slice p.X1 p.m.w.ls.length p.c1) := by rw [kp.out.cell]; rfl
  have a5 : y24v.cell? ⟨tp, 5, none⟩ = some (.int .i64 p.m.w.ex) := by rw [kp.out.cell]; rfl
  have a6 : y24v.cell? ⟨tp, 6, none⟩ = some (.bool p.m.c.neg) := by rw [kp.out.cell]; rfl
  have a7 : y24v.cell? ⟨tp, 7, none⟩ = some (.slice p.X2 p.m.c.ls.length p.c2) := by rw [kp.out.cell]; rfl
  have a8 : y24v.cell? ⟨tp, 8, none⟩ = some (.int .i64 p.m.c.ex) := by rw [kp.out.cell]; rfl
  have a9 : y24v.cell? ⟨tp, 9, none⟩ = some (.bool p.m.a.neg) := by rw [kp.out.cell]; rfl
  have a10 : y24v.cell? ⟨tp, 10, none⟩ = some (.slice p.X3 p.m.a.ls.length p.c3) := by rw [kp.out.cell]; rfl
  have a11 : y24v.cell? ⟨tp, 11, none⟩ = some (.int .i64 p.m.a.ex) := by rw [kp.out.cell]; rfl
  go_wp2_with fail
  refine (msame_any v.m.s.neg v.X0 v.m.s.ls.length v.c0 v.m.s.ex v.m.w.neg v.X1 v.m.w.ls.length v.c1 v.m.w.ex v.m.c.neg v.X2 v.m.c.ls.length v.c2 v.m.c.ex v.m.a.neg v.X3 v.m.a.ls.length v.c3 v.m.a.ex p.m.s.neg p.X0 p.m.s.ls.length p.c0 p.m.s.ex p.m.w.neg p.X1 p.m.w.ls.length p.c1 p.m.w.ex p.m.c.neg p.X2 p.m.c.ls.length p.c2 p.m.c.ex p.m.a.neg p.X3 p.m.a.ls.length p.c3 p.m.a.ex v.m p.m (by rw [hsame.out, ep'.out]; exact ok1.out.sm) (by rw [ep'.out]; exact ok1.out.sm) y24v uv.out up.out true (decide_eq_true hsame.out)).mono ?_
  rintro en x25 ⟨rfl, hb⟩
  have sx25 : y24v.heap.size ≤ x25.heap.size := hb.size
  replace gT := Lib.hid (Tab.below gT.out hb gT.out.2)
  replace r1 := Lib.hid (Recs.more (Recs.below r1.out hb) hb.size)
  replace r2 := Lib.hid (Recs.more (Recs.below r2.out hb) hb.size)
  replace uo := Lib.hid (uo.out.map (fun h => h.below hb))
  replace kb := Lib.hid (kb.out.below hb kb.out.lt)
  replace up := Lib.hid (RdO.below up.out hb)
  replace kp := Lib.hid (kp.out.below hb kp.out.lt)
  replace uz := Lib.hid (RdO.below uz.out hb)
  replace kz := Lib.hid (kz.out.below hb kz.out.lt)
  replace uv := Lib.hid (RdO.below uv.out hb)
  replace kv := Lib.hid (kv.out.below hb kv.out.lt)
  replace gB := Lib.hid (gB.out.trans (hb.mono gB.out.size))
  clear hb
  clear z0 z1 z2 z3 z4 z5 z6 z7 z8 z9 z10 z11 a0 a1 a2 a3 a4 a5 a6 a7 a8 a9 a10 a11
  go_wp2
  go_ret
  exact ⟨rfl, gB.out⟩
end Go.Proofs.YtdmjdpaehnhdoaaDoor
