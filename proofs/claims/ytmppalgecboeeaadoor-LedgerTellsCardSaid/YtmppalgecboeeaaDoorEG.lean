/- Door: ledger.Book -/
import Derived.Test.YtmppalgecboeeaaDoorEF
import Derived.Test.YtmppalgecboeeaaDoorLE
import Derived.Test.YtmppalgecboeeaaDoorLF
import Derived.Test.YtmppalgecboeeaaDoorMDG
import Derived.Test.YtmppalgecboeeaaDoorKA
namespace Go.Proofs.YtmppalgecboeeaaDoor
open Go.ChangeShapes Go.WideShapes Go.ChangeAt Go.RowKit
set_option linter.unusedSimpArgs false
set_option linter.unusedVariables false
open Go.Shelf
set_option maxRecDepth 100000
theorem step_push {P : Program} {w w0 : World} {ops : Array Oper} {o : Oper} {a : Act} {K : Act → World → Prop} {Q : Exit → Act → World → Prop} {E : Prop} (hgd : o.guard = none) (s x : Operand) (t : TypeId)
    (ho : o.op = .call { callee := .builtin .append, args := #[s, x], argTypes := #[t, t] })
    (base : Nat) (e : TypeId) (i : TypeInfo) (z : Value) (size bytes : Nat) (ht : P.underlying t = some (.slice e)) (hi : P.info? e = some i) (hz : i.zero = some z)
    (hsize : i.size = size) (hby : i.bytes = bytes) (hzs : z.cells.size = size) (hsz : 0 < size)
    (hB : Below base w w0) (hwb : base ≤ w.heap.size)
    (v : Value) (n : Nat) (xs : List Value) (hs : a.eval s = v) (hown : w0.ownsRow base e size v n xs)
    (us : List Value) (hul : us.length = size) (hu : ∀ u ∈ us, u.oneCell' = true) (hx : a.eval x = .slice (some ⟨w0.heap.size, 0, none⟩) 1 1)
    (h63 : n + 1 ≤ maxLen) (hbytes : (n + 1) * bytes ≤ 140737488355328)
    (h : ∀ v' w', w'.ownsRow base e size v' (n + 1) (xs ++ us) → Below base w w' → (∀ b, b < w0.heap.size → v.ownBlock ≠ some b → v'.ownBlock ≠ some b ∧ ∀ t cs, Blk w0 b t cs → Blk w' b t cs) → K (a.put o.dst v') w') : if Region.wanted o (yielded ops a.tmps) = true then Oper.wp P o a (w0.alloc (.cells us.toArray e)) K Q else E := by
  have hw : Region.wanted o (yielded ops a.tmps) = true := by simp [Region.wanted, hgd]
  have hw0 : base ≤ w0.heap.size := Nat.le_trans hwb hB.size
  rw [if_pos hw]
  refine wp_append_any _ s x t ho base e i z size bytes ht hi hz hsize hby hzs hsz v n xs hs (hown.alloc _) (w0.heap.size + 1) _ 1 1 us hx (reads_one w0 us e size hul) hu h63 hbytes (by rw [World.size_alloc]; omega) ?_
  intro v' w' h1 h2 h3
  refine h v' w' h1 ((hB.alloc hw0 _).grown h2 (by rw [World.size_alloc]; omega) (fun k hk => own_base hown hk)) (fun b hb hne => ⟨?_, fun t cs hc => (hc.alloc _).grown h2 (Ne.symm hne)⟩)
  rcases h3 with h3 | h3
  · rw [h3]; exact hne
  · rw [h3, World.size_alloc]
    intro e
    injection e with e
    omega
/-- What Book answers: the error; the entries. -/
def bkE (l : List En) (N y : Int) (g : Ms) : Int := if askL l N y ≠ 0 then askL l N y else if mayM g = false then 8 else if g = zM then 0 else if l.length = 8192 then 9 else 0
def bkL (l : List En) (N y : Int) (g : Ms) : List En := if bkE l N y g ≠ 0 then [] else if g = zM then l else l ++ [⟨N, y, g⟩]
def BookP (l : List En) (N y : Int) (g : Ms) (w : World) (en : Ending) (w' : World) : Prop := ∃ Ao n co, en = .returned (.tuple #[.slice Ao n co, .int .i64 (bkE l N y g)]) ∧ n = (bkL l N y g).length ∧ TwE w n (bkL l N y g) Ao co w'
theorem book_no {l : List En} {N y : Int} {g : Ms} {w w' : World} {E : Int} (hE : bkE l N y g = E) (h0 : E ≠ 0) (hB : Below w.heap.size w w') : BookP l N y g w (.returned (.tuple #[.slice none 0 0, .int .i64 E])) w' := by
  have e : bkL l N y g = [] := by unfold bkL; rw [hE, if_pos h0]
  refine ⟨none, 0, 0, by rw [hE], by rw [e]; rfl, ?_⟩
  rw [e]
  exact accE_done (accE_nil _ _) hB
set_option maxHeartbeats 8000000 in
theorem book_any (A : Option Addr) (n c : Nat) (l : List En) (hm : n ≤ 8300) (hs : ∀ x ∈ l, smM x.give) (w : World) (h1 : Ens w w.heap.size A n l) (N y : Int) (g : Ms) (hsg : smM g) (gX0 : Option Addr) (gc0 : Nat) (gX1 : Option Addr) (gc1 : Nat) (gX2 : Option Addr) (gc2 : Nat) (gX3 : Option Addr) (gc3 : Nat) (rg : RdM w w.heap.size g.s.neg gX0 g.s.ls.length gc0 g.s.ex g.w.neg gX1 g.w.ls.length gc1 g.w.ex g.c.neg gX2 g.c.ls.length gc2 g.c.ex g.a.neg gX3 g.a.ls.length gc3 g.a.ex g) : Calls Tryd.prog 11 #[.slice A n c, .int .i64 N, .int .u8 y, .agg #[.bool g.s.neg, .slice gX0 g.s.ls.length gc0, .int .i64 g.s.ex, .bool g.w.neg, .slice gX1 g.w.ls.length gc1, .int .i64 g.w.ex, .bool g.c.neg, .slice gX2 g.c.ls.length gc2, .int .i64 g.c.ex, .bool g.a.neg, .slice gX3 g.a.ls.length gc3, .int .i64 g.a.ex]] w (BookP l N y g w) := by
  obtain ⟨i0, hi0, hz0, hz1, hz2⟩ := info_parts infoE
  have gln := Lib.hid (ens_len h1)
  obtain ⟨V, hV⟩ : ∃ V, V = w.alloc (.cells #[.bool g.s.neg, .slice gX0 g.s.ls.length gc0, .int .i64 g.s.ex, .bool g.w.neg, .slice gX1 g.w.ls.length gc1, .int .i64 g.w.ex, .bool g.c.neg, .slice gX2 g.c.ls.length gc2, .int .i64 g.c.ex, .bool g.a.neg, .slice gX3 g.a.ls.length gc3, .int .i64 g.a.ex] 27) := ⟨_, rfl⟩
  have kb : Blk V w.heap.size 27 #[.bool g.s.neg, .slice gX0 g.s.ls.length gc0, .int .i64 g.s.ex, .bool g.w.neg, .slice gX1 g.w.ls.length gc1, .int .i64 g.w.ex, .bool g.c.neg, .slice gX2 g.c.ls.length gc2, .int .i64 g.c.ex, .bool g.a.neg, .slice gX3 g.a.ls.length gc3, .int .i64 g.a.ex] := by rw [hV]; exact Blk.new w _ _
  have hB : Below w.heap.size w V := by rw [hV]; exact (Below.refl _ w).alloc (Nat.le_refl _) _
  have ha := asked_any A n c l hm V ((h1.below hB).more hB.size) N y
  obtain ⟨E, hE⟩ : ∃ E, askL l N y = E := ⟨_, rfl⟩
  rw [hE] at ha
  have gE := Lib.hid hE
  have gB := Lib.hid hB
  have gk := Lib.hid kb
  have gh1 := Lib.hid h1
  have grg := Lib.hid rg
  have gs := Lib.hid hs
  have gsg := Lib.hid hsg
  clear hE hB kb h1 rg hs hsg
  go_enter Tryd.func11, Tryd.ntmps11
  go_wp2_with fail
  rw [← hV]
  clear hV
  refine ha.mono ?_
  rintro en w1 ⟨rfl, hb1⟩
  clear ha
  have gB1 := Lib.hid (gB.out.trans (hb1.mono gB.out.size))
  have k1 := gk.out.below hb1 gk.out.lt
  by_cases h0 : E = 0
  rotate_left
  · have t0 : (E != 0) = true := bne_iff_ne.2 h0
    have gf : Hid (BookP l N y g w (.returned (.tuple #[.slice none 0 0, .int .i64 E])) w1) := Lib.hid (book_no (by unfold bkE; rw [gE.out, if_pos h0]) h0 gB1.out)
    clear h0 k1
    go_wp2
    go_ret2
    exact gf.out
  subst h0
  have z0 := k1.cell 0
  have z1 := k1.cell 1
  have z2 := k1.cell 2
  have z3 := k1.cell 3
  have z4 := k1.cell 4
  have z5 := k1.cell 5
  have z6 := k1.cell 6
  have z7 := k1.cell 7
  have z8 := k1.cell 8
  have z9 := k1.cell 9
  have z10 := k1.cell 10
  have z11 := k1.cell 11
  simp only [List.getElem?_toArray, List.getElem?_cons_zero, List.getElem?_cons_succ] at z0 z1 z2 z3 z4 z5 z6 z7 z8 z9 z10 z11
  obtain ⟨Q, hQ⟩ : ∃ Q, mayM g = Q := ⟨_, rfl⟩
  have hc := mcheck_any g.s.neg gX0 g.s.ls.length gc0 g.s.ex g.w.neg gX1 g.w.ls.length gc1 g.w.ex g.c.neg gX2 g.c.ls.length gc2 g.c.ex g.a.neg gX3 g.a.ls.length gc3 g.a.ex g w1 (grg.out.below gB1.out gB1.out.size) Q hQ
  go_wp2_with fail
  refine hc.mono ?_
  rintro en w2 ⟨rfl, hb2⟩
  have gB2 := Lib.hid (gB1.out.trans (hb2.mono gB1.out.size))
  have k2 := k1.below hb2 k1.lt
  clear hc z0 z1 z2 z3 z4 z5 z6 z7 z8 z9 z10 z11 k1
  cases Q with
  | false =>
    have gf : Hid (BookP l N y g w (.returned (.tuple #[.slice none 0 0, .int .i64 8])) w2) := Lib.hid (book_no (by unfold bkE; rw [gE.out, if_neg (by decide), if_pos hQ]) (by decide) gB2.out)
    clear hQ k2
    go_wp2
    go_ret2
    exact gf.out
  | true =>
    have z0 := k2.cell 0
    have z1 := k2.cell 1
    have z2 := k2.cell 2
    have z3 := k2.cell 3
    have z4 := k2.cell 4
    have z5 := k2.cell 5
    have z6 := k2.cell 6
    have z7 := k2.cell 7
    have z8 := k2.cell 8
    have z9 := k2.cell 9
    have z10 := k2.cell 10
    have z11 := k2.cell 11
    simp only [List.getElem?_toArray, List.getElem?_cons_zero, List.getElem?_cons_succ] at z0 z1 z2 z3 z4 z5 z6 z7 z8 z9 z10 z11
    obtain ⟨R, hR⟩ : ∃ R, decide (g = zM) = R := ⟨_, rfl⟩
    have hc := msame_any g.s.neg gX0 g.s.ls.length gc0 g.s.ex g.w.neg gX1 g.w.ls.length gc1 g.w.ex g.c.neg gX2 g.c.ls.length gc2 g.c.ex g.a.neg gX3 g.a.ls.length gc3 g.a.ex false none 0 0 0 false none 0 0 0 false none 0 0 0 false none 0 0 0 g zM gsg.out ⟨Nat.zero_le _, Nat.zero_le _, Nat.zero_le _, Nat.zero_le _⟩ w2 (grg.out.below gB2.out gB2.out.size) ⟨⟨rfl, rfl, rfl, Nat.le_refl _, Reads.none_⟩, ⟨rfl, rfl, rfl, Nat.le_refl _, Reads.none_⟩, ⟨rfl, rfl, rfl, Nat.le_refl _, Reads.none_⟩, ⟨rfl, rfl, rfl, Nat.le_refl _, Reads.none_⟩⟩ R hR
    go_wp2_with fail
    refine hc.mono ?_
    rintro en w3 ⟨rfl, hb3⟩
    have gB3 := Lib.hid (gB2.out.trans (hb3.mono gB2.out.size))
    have k3 := k2.below hb3 k2.lt
    clear hc z0 z1 z2 z3 z4 z5 z6 z7 z8 z9 z10 z11 k2
    have h3 : Ens w3 w3.heap.size A n l := (gh1.out.below gB3.out).more gB3.out.size
    cases R with
    | true =>
      have htw := etwin_any A n c l (by omega) gs.out w3 h3
      have ge : Hid (bkE l N y g = 0 ∧ bkL l N y g = l) := Lib.hid (by
        have e0 : g = zM := of_decide_eq_true hR
        have e1 : bkE l N y g = 0 := by unfold bkE; rw [gE.out, if_neg (by decide), if_neg (by rw [hQ]; decide), if_pos e0]
        exact ⟨e1, by unfold bkL; rw [e1, if_neg (by decide), if_pos e0]⟩)
      clear hR hQ h3 k3
      go_wp2_with fail
      refine htw.mono ?_
      rintro en w4 ⟨Ao, co, rfl, hT4⟩
      have gf : Hid (BookP l N y g w (.returned (.tuple #[.slice Ao n co, .int .i64 0])) w4) := Lib.hid ⟨Ao, n, co, by rw [ge.out.1], by rw [ge.out.2]; exact gln.out.symm, by rw [ge.out.2]; exact accE_done (hT4.2.2.2.2.base_le gB3.out.size) (gB3.out.trans (hT4.2.2.2.1.mono gB3.out.size))⟩
      clear htw hT4
      go_wp2
      go_ret2
      exact gf.out
    | false =>
      have hnz : g ≠ zM := of_decide_eq_false hR
      by_cases hf : n = 8192
      · have gf : Hid (BookP l N y g w (.returned (.tuple #[.slice none 0 0, .int .i64 9])) w3) := Lib.hid (book_no (by unfold bkE; rw [gE.out, if_neg (by decide), if_neg (by rw [hQ]; decide), if_neg hnz, if_pos (by rw [gln.out]; exact hf)]) (by decide) gB3.out)
        have t5 : ((n : Int) == 8192) = true := beq_iff_eq.2 (by omega)
        clear hR hQ h3 k3 hnz
        subst hf
        go_wp2
        go_ret2
        exact gf.out
      · have t5 : ((n : Int) == 8192) = false := beq_eq_false_iff_ne.2 (by omega)
        have ge : Hid (bkE l N y g = 0 ∧ bkL l N y g = l ++ [⟨N, y, g⟩]) := Lib.hid (by
          have e1 : bkE l N y g = 0 := by unfold bkE; rw [gE.out, if_neg (by decide), if_neg (by rw [hQ]; decide), if_neg hnz, if_neg (by rw [gln.out]; exact hf)]
          exact ⟨e1, by unfold bkL; rw [e1, if_neg (by decide), if_neg hnz]⟩)
        have htw := etwin_any A n c l (by omega) gs.out w3.drew h3
        have hmt : ∀ w', Below w3.heap.size w3.drew w' → Calls Tryd.prog 34 #[.agg #[.bool g.s.neg, .slice gX0 g.s.ls.length gc0, .int .i64 g.s.ex, .bool g.w.neg, .slice gX1 g.w.ls.length gc1, .int .i64 g.w.ex, .bool g.c.neg, .slice gX2 g.c.ls.length gc2, .int .i64 g.c.ex, .bool g.a.neg, .slice gX3 g.a.ls.length gc3, .int .i64 g.a.ex]] w' (TwM w' g.s.neg gX0 g.s.ls.length gc0 g.s.ex g.w.neg gX1 g.w.ls.length gc1 g.w.ex g.c.neg gX2 g.c.ls.length gc2 g.c.ex g.a.neg gX3 g.a.ls.length gc3 g.a.ex g) := fun w' hb => mtwin_any g.s.neg gX0 g.s.ls.length gc0 g.s.ex g.w.neg gX1 g.w.ls.length gc1 g.w.ex g.c.neg gX2 g.c.ls.length gc2 g.c.ex g.a.neg gX3 g.a.ls.length gc3 g.a.ex g gsg.out w' (grg.out.below (gB3.out.trans ((Below.drew (Below.refl _ _)).trans (hb.mono gB3.out.size))) (Nat.le_trans (Nat.le_trans gB3.out.size (show w3.heap.size ≤ w3.drew.heap.size from Nat.le_refl _)) hb.size))
        clear hR hQ h3 hnz
        have SB : ∀ w', Below w3.heap.size w3.drew w' → (fun w' => w'.cell? ⟨w.heap.size, 0, none⟩ = some (.bool g.s.neg) ∧ w'.cell? ⟨w.heap.size, 1, none⟩ = some (.slice gX0 g.s.ls.length gc0) ∧ w'.cell? ⟨w.heap.size, 2, none⟩ = some (.int .i64 g.s.ex) ∧ w'.cell? ⟨w.heap.size, 3, none⟩ = some (.bool g.w.neg) ∧ w'.cell? ⟨w.heap.size, 4, none⟩ = some (.slice gX1 g.w.ls.length gc1) ∧ w'.cell? ⟨w.heap.size, 5, none⟩ = some (.int .i64 g.w.ex) ∧ w'.cell? ⟨w.heap.size, 6, none⟩ = some (.bool g.c.neg) ∧ w'.cell? ⟨w.heap.size, 7, none⟩ = some (.slice gX2 g.c.ls.length gc2) ∧ w'.cell? ⟨w.heap.size, 8, none⟩ = some (.int .i64 g.c.ex) ∧ w'.cell? ⟨w.heap.size, 9, none⟩ = some (.bool g.a.neg) ∧ w'.cell? ⟨w.heap.size, 10, none⟩ = some (.slice gX3 g.a.ls.length gc3) ∧ w'.cell? ⟨w.heap.size, 11, none⟩ = some (.int .i64 g.a.ex)) w' := fun w' hb => by
          have kk := (Blk.drew k3).below hb k3.lt
          dsimp only
          exact ⟨kk.cell 0, kk.cell 1, kk.cell 2, kk.cell 3, kk.cell 4, kk.cell 5, kk.cell 6, kk.cell 7, kk.cell 8, kk.cell 9, kk.cell 10, kk.cell 11⟩
        go_upto_region 10 with (fail)
        refine wp_region_held_drew (S := fun w' => w'.cell? ⟨w.heap.size, 0, none⟩ = some (.bool g.s.neg) ∧ w'.cell? ⟨w.heap.size, 1, none⟩ = some (.slice gX0 g.s.ls.length gc0) ∧ w'.cell? ⟨w.heap.size, 2, none⟩ = some (.int .i64 g.s.ex) ∧ w'.cell? ⟨w.heap.size, 3, none⟩ = some (.bool g.w.neg) ∧ w'.cell? ⟨w.heap.size, 4, none⟩ = some (.slice gX1 g.w.ls.length gc1) ∧ w'.cell? ⟨w.heap.size, 5, none⟩ = some (.int .i64 g.w.ex) ∧ w'.cell? ⟨w.heap.size, 6, none⟩ = some (.bool g.c.neg) ∧ w'.cell? ⟨w.heap.size, 7, none⟩ = some (.slice gX2 g.c.ls.length gc2) ∧ w'.cell? ⟨w.heap.size, 8, none⟩ = some (.int .i64 g.c.ex) ∧ w'.cell? ⟨w.heap.size, 9, none⟩ = some (.bool g.a.neg) ∧ w'.cell? ⟨w.heap.size, 10, none⟩ = some (.slice gX3 g.a.ls.length gc3) ∧ w'.cell? ⟨w.heap.size, 11, none⟩ = some (.int .i64 g.a.ex)) (by kernel_rfl) (SB _ (Below.refl _ _)) (fun hHeld => ?_)
        refine wpAnyH_take (i := 0) (oi := ?o0_152) (v := ?v0_152) ?ho0_152 (by kernel_rfl) (by kernel_rfl) (by kernel_rfl) ?hp0_152 (Or.inl ⟨?wn0_152, ?yn0_152⟩) (by assumption) ?rest0_152
        case ho0_152 => (simp only [List.getElem?_toArray, List.getElem?_cons_zero, List.getElem?_cons_succ]; rfl)
        case wn0_152 => rfl
        case yn0_152 => (intro w hSw; (try dsimp only at hSw); go_simp; (try with_reducible rfl))
        case hp0_152 => exact fun _ _ _ h => h
        (try simp only [Act.put, List.setIfInBounds_toArray, List.set_cons_zero, List.set_cons_succ])
        refine wpAnyH_take (i := 2) (oi := ?o2_153) (v := ?v2_153) ?ho2_153 (by kernel_rfl) (by kernel_rfl) (by kernel_rfl) ?hp2_153 (Or.inl ⟨?wn2_153, ?yn2_153⟩) (by assumption) ?rest2_153
        case ho2_153 => (simp only [List.getElem?_toArray, List.getElem?_cons_zero, List.getElem?_cons_succ]; rfl)
        case wn2_153 => rfl
        case yn2_153 => (intro w hSw; (try dsimp only at hSw); go_simp; (try with_reducible rfl))
        case hp2_153 => exact fun _ _ _ h => h
        (try simp only [Act.put, List.setIfInBounds_toArray, List.set_cons_zero, List.set_cons_succ])
        refine wpAnyH_take (i := 3) (oi := ?o3_154) (v := ?v3_154) ?ho3_154 (by kernel_rfl) (by kernel_rfl) (by kernel_rfl) ?hp3_154 (Or.inl ⟨?wn3_154, ?yn3_154⟩) (by assumption) ?rest3_154
        case ho3_154 => (simp only [List.getElem?_toArray, List.getElem?_cons_zero, List.getElem?_cons_succ]; rfl)
        case wn3_154 => rfl
        case yn3_154 => (intro w hSw; (try dsimp only at hSw); go_simp; (try with_reducible rfl))
        case hp3_154 => exact fun _ _ _ h => h
        (try simp only [Act.put, List.setIfInBounds_toArray, List.set_cons_zero, List.set_cons_succ])
        refine wpAnyH_take (i := 4) (oi := ?o4_155) (v := ?v4_155) ?ho4_155 (by kernel_rfl) (by kernel_rfl) (by kernel_rfl) ?hp4_155 (Or.inl ⟨?wn4_155, ?yn4_155⟩) (by assumption) ?rest4_155
        case ho4_155 => (simp only [List.getElem?_toArray, List.getElem?_cons_zero, List.getElem?_cons_succ]; rfl)
        case wn4_155 => rfl
        case yn4_155 => (intro w hSw; (try dsimp only at hSw); go_simp; (try with_reducible rfl))
        case hp4_155 => exact fun _ _ _ h => h
        (try simp only [Act.put, List.setIfInBounds_toArray, List.set_cons_zero, List.set_cons_succ])
        refine tkR 1 (h := fun K hK => ?_)
        go_simp
        with_reducible refine htw.mono ?_
        rintro en w4 ⟨Ao, co, rfl, hT4⟩
        have hb4 : Below w3.heap.size w3.drew w4 := hT4.2.2.2.1
        have gA4 : Hid (AccE w4 w3.heap.size (.slice Ao n co) n l) := Lib.hid hT4.2.2.2.2
        clear htw hT4
        refine hK.out _ _ (SB _ hb4) (fun hHeld => ?_)
        clear hK K
        (try simp only [Act.put, List.setIfInBounds_toArray, List.set_cons_zero, List.set_cons_succ])
        refine tkR 5 (h := fun K hK => ?_)
        go_simp
        with_reducible refine (hmt w4 hb4).mono ?_
        rintro en w5 ⟨X0, c0, X1, c1, X2, c2, X3, c3, rfl, i0', i1, i2, i3, hb5⟩
        have hb45 : Below w3.heap.size w3.drew w5 := hb4.trans (hb5.mono hb4.size)
        obtain ⟨os, hos, hown, hto⟩ := gA4.out.below hb5
        have gown := Lib.hid hown
        have gto := Lib.hid hto
        have go' : Hid (ownE w5 w3.heap.size ⟨⟨N, y, g⟩, X0, c0, X1, c1, X2, c2, X3, c3⟩) := Lib.hid ⟨⟨i0'.1, i0'.2.base_le hb4.size⟩, ⟨i1.1, i1.2.base_le hb4.size⟩, ⟨i2.1, i2.2.base_le hb4.size⟩, ⟨i3.1, i3.2.base_le hb4.size⟩⟩
        clear hown hto i0' i1 i2 i3 hmt
        refine hK.out _ _ (SB _ hb45) (fun hHeld => ?_)
        clear hK K
        (try simp only [Act.put, List.setIfInBounds_toArray, List.set_cons_zero, List.set_cons_succ])
        refine wpAnyH_take (i := 6) (oi := ?o6_158) (v := ?v6_158) ?ho6_158 (by kernel_rfl) (by kernel_rfl) (by kernel_rfl) ?hp6_158 (Or.inl ⟨?wn6_158, ?yn6_158⟩) (by assumption) ?rest6_158
        case ho6_158 => (simp only [List.getElem?_toArray, List.getElem?_cons_zero, List.getElem?_cons_succ]; rfl)
        case wn6_158 => rfl
        case yn6_158 => (intro w hSw; (try dsimp only at hSw); go_simp; (try with_reducible rfl))
        case hp6_158 => exact fun _ _ _ h => h
        (try simp only [Act.put, List.setIfInBounds_toArray, List.set_cons_zero, List.set_cons_succ])
        refine tkR 7 (h := fun K hK => ?_)
        go_simp
        refine hK.out _ _ (SB _ (Below.alloc hb45 (Nat.le_trans (Nat.le_refl _) hb45.size) _)) (fun hHeld => ?_)
        clear hK K
        (try simp only [Act.put, List.setIfInBounds_toArray, List.set_cons_zero, List.set_cons_succ])
        refine tkR 8 (h := fun K hK => ?_)
        refine step_push rfl (.tmp 34) (.tmp 40) 22 rfl w3.heap.size 53 i0 _ 14 176 Tryd.underlying22 hi0 hz0 hz1 hz2 rfl (by omega) hb45 (Nat.le_refl _) (.slice Ao n co) n _ rfl gown.out [.int .i64 N, .int .u8 y, .bool g.s.neg, .slice X0 g.s.ls.length c0, .int .i64 g.s.ex, .bool g.w.neg, .slice X1 g.w.ls.length c1, .int .i64 g.w.ex, .bool g.c.neg, .slice X2 g.c.ls.length c2, .int .i64 g.c.ex, .bool g.a.neg, .slice X3 g.a.ls.length c3, .int .i64 g.a.ex] rfl (one14 _ _ _ _ _ _ _ _ _ _ _ _ _ _ _ _ _ _ _ _ _ _) rfl (by unfold maxLen; omega) (by omega) ?_
        intro v6 w6 ho6 hb6 hk6
        have hA6 := accE_push (o := ⟨⟨N, y, g⟩, X0, c0, X1, c1, X2, c2, X3, c3⟩) gown.out gto.out go'.out ho6 hk6
        rw [hos] at hA6
        obtain ⟨A6, c6, rfl⟩ := accE_slice hA6
        have gA6 := Lib.hid hA6
        clear ho6 hk6 hA6
        refine hK.out _ _ (SB _ hb6) (fun hHeld => ?_)
        clear hK K
        (try simp only [Act.put, List.setIfInBounds_toArray, List.set_cons_zero, List.set_cons_succ])
        refine wpAnyH_take (i := 9) (oi := ?o9_161) (v := ?v9_161) ?ho9_161 (by kernel_rfl) (by kernel_rfl) (by kernel_rfl) ?hp9_161 (Or.inl ⟨?wn9_161, ?yn9_161⟩) (by assumption) ?rest9_161
        case ho9_161 => (simp only [List.getElem?_toArray, List.getElem?_cons_zero, List.getElem?_cons_succ]; rfl)
        case wn9_161 => rfl
        case yn9_161 => (intro w hSw; (try dsimp only at hSw); go_simp; (try with_reducible rfl))
        case hp9_161 => exact fun _ _ _ h => h
        (try simp only [Act.put, List.setIfInBounds_toArray, List.set_cons_zero, List.set_cons_succ])
        refine wpAnyH_take (i := 10) (oi := ?o10_162) (v := ?v10_162) ?ho10_162 (by kernel_rfl) (by kernel_rfl) (by kernel_rfl) ?hp10_162 (Or.inl ⟨?wn10_162, ?yn10_162⟩) (by assumption) ?rest10_162
        case ho10_162 => (simp only [List.getElem?_toArray, List.getElem?_cons_zero, List.getElem?_cons_succ]; rfl)
        case wn10_162 => rfl
        case yn10_162 => (intro w hSw; (try dsimp only at hSw); go_simp; (try with_reducible rfl))
        case hp10_162 => exact fun _ _ _ h => h
        (try simp only [Act.put, List.setIfInBounds_toArray, List.set_cons_zero, List.set_cons_succ])
        refine wpAnyH_done (by kernel_rfl) ?_ _
        have gf : Hid (BookP l N y g w (.returned (.tuple #[.slice A6 (n + 1) c6, .int .i64 0])) w6) := Lib.hid ⟨A6, n + 1, c6, by rw [ge.out.1], by rw [ge.out.2, List.length_append, gln.out]; rfl, by rw [ge.out.2]; exact accE_done (gA6.out.base_le gB3.out.size) (gB3.out.trans ((Below.drew (Below.refl _ w3)).trans (hb6.mono gB3.out.size)))⟩
        clear hb6 gA6
        go_wp2
        go_ret2
        exact gf.out
end Go.Proofs.YtmppalgecboeeaaDoor
