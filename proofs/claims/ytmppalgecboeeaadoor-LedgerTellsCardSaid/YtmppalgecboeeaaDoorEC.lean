/- Door: the closures; ledger.chosen as a sequence -/
import Derived.Test.YtmppalgecboeeaaDoorEAB
import Derived.Test.YtmppalgecboeeaaDoorMDG
import Derived.RangeFuncNested
import Derived.RangeFuncBound
import Derived.RangeFuncCalls
import Derived.RangeFuncLeaves
import Derived.RangeFuncBox
import Derived.TacticsInMore
import Derived.LoopNIn
import Derived.LoopIn
import Derived.WalkKit
namespace Go.Proofs.YtmppalgecboeeaaDoor
open Go.ChangeShapes Go.WideShapes Go.ChangeAt Go.RowKit
set_option linter.unusedSimpArgs false
set_option linter.unusedVariables false
open Go.Shelf
set_option maxRecDepth 100000
set_option maxHeartbeats 2000000 in
theorem cloS (ep why : Int) (ag0 : Bool) (aX0 : Option Addr) (an0 ac0 : Nat) (ae0 : Int) (ag1 : Bool) (aX1 : Option Addr) (an1 ac1 : Nat) (ae1 : Int) (ag2 : Bool) (aX2 : Option Addr) (an2 ac2 : Nat) (ae2 : Int) (ag3 : Bool) (aX3 : Option Addr) (an3 ac3 : Nat) (ae3 : Int) (bN : Nat) (N : Int) (w : World) (Q : Bool) (hQ : (ep == N) = Q) (hbN : w.cell? ⟨bN, 0, none⟩ = some (.int .i64 N)) : Calls Tryd.prog 41 #[.agg #[.int .i64 ep, .int .u8 why, .bool ag0, .slice aX0 an0 ac0, .int .i64 ae0, .bool ag1, .slice aX1 an1 ac1, .int .i64 ae1, .bool ag2, .slice aX2 an2 ac2, .int .i64 ae2, .bool ag3, .slice aX3 an3 ac3, .int .i64 ae3], .pointer (some ⟨bN, 0, none⟩)] w fun en w' => en = .returned (.bool Q) ∧ Below w.heap.size w w' := by
  have hB := (Below.refl w.heap.size w).alloc (Nat.le_refl _) (.cells #[.int .i64 ep, .int .u8 why, .bool ag0, .slice aX0 an0 ac0, .int .i64 ae0, .bool ag1, .slice aX1 an1 ac1, .int .i64 ae1, .bool ag2, .slice aX2 an2 ac2, .int .i64 ae2, .bool ag3, .slice aX3 an3 ac3, .int .i64 ae3] 53)
  replace hbN := (hB.cell (World.block_lt_of_cell? w _ hbN)).trans hbN
  go_enter Tryd.func41, Tryd.ntmps41
  go_wp2
  go_ret
  exact ⟨rfl, hB⟩
set_option maxHeartbeats 2000000 in
theorem cloO (ep why : Int) (ag0 : Bool) (aX0 : Option Addr) (an0 ac0 : Nat) (ae0 : Int) (ag1 : Bool) (aX1 : Option Addr) (an1 ac1 : Nat) (ae1 : Int) (ag2 : Bool) (aX2 : Option Addr) (an2 ac2 : Nat) (ae2 : Int) (ag3 : Bool) (aX3 : Option Addr) (an3 ac3 : Nat) (ae3 : Int) (bN : Nat) (N : Int) (bK : Nat) (y : Int) (w : World) (Q : Bool) (hQ : (ep == N && why == y) = Q) (hbN : w.cell? ⟨bN, 0, none⟩ = some (.int .i64 N)) (hbK : w.cell? ⟨bK, 0, none⟩ = some (.int .u8 y)) : Calls Tryd.prog 43 #[.agg #[.int .i64 ep, .int .u8 why, .bool ag0, .slice aX0 an0 ac0, .int .i64 ae0, .bool ag1, .slice aX1 an1 ac1, .int .i64 ae1, .bool ag2, .slice aX2 an2 ac2, .int .i64 ae2, .bool ag3, .slice aX3 an3 ac3, .int .i64 ae3], .pointer (some ⟨bN, 0, none⟩), .pointer (some ⟨bK, 0, none⟩)] w fun en w' => en = .returned (.bool Q) ∧ Below w.heap.size w w' := by
  have hB := (Below.refl w.heap.size w).alloc (Nat.le_refl _) (.cells #[.int .i64 ep, .int .u8 why, .bool ag0, .slice aX0 an0 ac0, .int .i64 ae0, .bool ag1, .slice aX1 an1 ac1, .int .i64 ae1, .bool ag2, .slice aX2 an2 ac2, .int .i64 ae2, .bool ag3, .slice aX3 an3 ac3, .int .i64 ae3] 53)
  replace hbN := (hB.cell (World.block_lt_of_cell? w _ hbN)).trans hbN
  replace hbK := (hB.cell (World.block_lt_of_cell? w _ hbK)).trans hbK
  obtain ⟨q1, hq1⟩ : ∃ q, (ep == N) = q := ⟨_, rfl⟩
  obtain ⟨q2, hq2⟩ : ∃ q, (why == y) = q := ⟨_, rfl⟩
  rw [hq1, hq2] at hQ
  subst hQ
  cases q1 <;> (go_enter Tryd.func43, Tryd.ntmps43; go_wp2; go_ret; exact ⟨rfl, hB⟩)
set_option maxHeartbeats 2000000 in
theorem cloC (ep why : Int) (ag0 : Bool) (aX0 : Option Addr) (an0 ac0 : Nat) (ae0 : Int) (ag1 : Bool) (aX1 : Option Addr) (an1 ac1 : Nat) (ae1 : Int) (ag2 : Bool) (aX2 : Option Addr) (an2 ac2 : Nat) (ae2 : Int) (ag3 : Bool) (aX3 : Option Addr) (an3 ac3 : Nat) (ae3 : Int) (bN : Nat) (N : Int) (w : World) (Q : Bool) (hQ : (ep == N) = Q) (hbN : w.cell? ⟨bN, 0, none⟩ = some (.int .i64 N)) : Calls Tryd.prog 45 #[.agg #[.int .i64 ep, .int .u8 why, .bool ag0, .slice aX0 an0 ac0, .int .i64 ae0, .bool ag1, .slice aX1 an1 ac1, .int .i64 ae1, .bool ag2, .slice aX2 an2 ac2, .int .i64 ae2, .bool ag3, .slice aX3 an3 ac3, .int .i64 ae3], .pointer (some ⟨bN, 0, none⟩)] w fun en w' => en = .returned (.bool Q) ∧ Below w.heap.size w w' := by
  have hB := (Below.refl w.heap.size w).alloc (Nat.le_refl _) (.cells #[.int .i64 ep, .int .u8 why, .bool ag0, .slice aX0 an0 ac0, .int .i64 ae0, .bool ag1, .slice aX1 an1 ac1, .int .i64 ae1, .bool ag2, .slice aX2 an2 ac2, .int .i64 ae2, .bool ag3, .slice aX3 an3 ac3, .int .i64 ae3] 53)
  replace hbN := (hB.cell (World.block_lt_of_cell? w _ hbN)).trans hbN
  go_enter Tryd.func45, Tryd.ntmps45
  go_wp2
  go_ret
  exact ⟨rfl, hB⟩
structure MV where
  g0 : Bool
  X0 : Option Addr
  n0 : Nat
  c0 : Nat
  e0 : Int
  g1 : Bool
  X1 : Option Addr
  n1 : Nat
  c1 : Nat
  e1 : Int
  g2 : Bool
  X2 : Option Addr
  n2 : Nat
  c2 : Nat
  e2 : Int
  g3 : Bool
  X3 : Option Addr
  n3 : Nat
  c3 : Nat
  e3 : Int
  m : Ms
def MV.ok (w : World) (v : MV) : Prop := RdM w w.heap.size v.g0 v.X0 v.n0 v.c0 v.e0 v.g1 v.X1 v.n1 v.c1 v.e1 v.g2 v.X2 v.n2 v.c2 v.e2 v.g3 v.X3 v.n3 v.c3 v.e3 v.m ∧ mayM v.m = true ∧ ltM4 v.m
def MV.val (v : MV) : Value := .agg #[.bool v.g0, .slice v.X0 v.n0 v.c0, .int .i64 v.e0, .bool v.g1, .slice v.X1 v.n1 v.c1, .int .i64 v.e1, .bool v.g2, .slice v.X2 v.n2 v.c2, .int .i64 v.e2, .bool v.g3, .slice v.X3 v.n3 v.c3, .int .i64 v.e3]
abbrev Vw (w : World) := {v : MV // v.ok w}
abbrev encV (w : World) (v : Vw w) : Array Value := #[v.1.val]
/-- What lay below stays. -/
abbrev KpB (wn : World) (W W' : World) : Prop := Below wn.heap.size W W'
theorem kpB_t {wn : World} {A B C : World} (h : KpB wn A B) (k : KpB wn B C) : KpB wn A C := h.trans k
theorem chosen_any (A : Option Addr) (n c gf : Nat) (lb : Array Value) (w : World) : Calls Tryd.prog 40 #[.slice A n c, .func (.func gf) #[] lb] w fun en w' => en = .returned (.func (.func 60) #[] #[.pointer (some ⟨w.heap.size, 0, none⟩), .pointer (some ⟨w.heap.size + 1, 0, none⟩)]) ∧ w' = (w.alloc (.cells #[.slice A n c] 22)).alloc (.cells #[.func (.func gf) #[] lb] 70) := by
  go_enter Tryd.func40, Tryd.ntmps40
  go_wp2
  go_ret
  exact ⟨rfl, rfl⟩
attribute [local go_sem] Oper.semAt_some
theorem lt_n {k n : Nat} (h : k ≤ n) (hn : ¬ k < n) : k = n := by omega
set_option maxHeartbeats 8000000 in
theorem chosenS_in (wn : World) (A : Option Addr) (n c : Nat) (l : List En) (hm : n ≤ 8300) (h1 : Ens wn wn.heap.size A n l) (hl : ∀ x ∈ l, mayM x.give = true ∧ ltM4 x.give) (bl bs : Nat) (bN : Nat) (N : Int)
    (gbl : wn.cell? ⟨bl, 0, none⟩ = some (.slice A n c)) (gbs : wn.cell? ⟨bs, 0, none⟩ = some (.func (.func 41) #[] #[.pointer (some ⟨bN, 0, none⟩)])) (gbN : wn.cell? ⟨bN, 0, none⟩ = some (.int .i64 N))
    (nn lp : Nat) (hn : 2 ≤ nn) (J Jx : List (Vw wn) → World → Prop) (W : World) (hW : Below wn.heap.size wn W)
    (hJ : ∀ s A B, J s A → A.grownBy B none → J s B)
    (hY : ∀ pre x W1, J pre W1 → pre.length < l.length → YieldAt Fence.wide (nn - 1) Tryd.prog lp (encV wn x) W1 fun e W' => (e = .returned (.bool true) ∧ J (pre ++ [x]) W' ∧ KpB wn W1 W') ∨ (e = .returned (.bool false) ∧ Jx (pre ++ [x]) W'))
    (h0 : J [] W) :
    CallsIn Fence.wide nn Tryd.prog 60 #[.func (.yield lp) #[] #[], .pointer (some ⟨bl, 0, none⟩), .pointer (some ⟨bs, 0, none⟩)] W fun e W' => (∃ v, e = .returned v) ∧
      ((∃ ys : List (Vw wn), ys.map (fun v => v.1.m) = (l.filter (fun x => x.ep == N)).map (·.give) ∧ J ys W') ∨ (∃ pre : List (Vw wn), (∃ r, pre.map (fun v => v.1.m) ++ r = (l.filter (fun x => x.ep == N)).map (·.give)) ∧ Jx pre W')) := by
  have gln := Lib.hid (ens_len h1)
  have hcl : wn.heap.size ≥ 0 := Nat.zero_le _
  have lbl := World.block_lt_of_cell? wn _ gbl
  have lbs := World.block_lt_of_cell? wn _ gbs
  have gcell : ∀ {b : Nat} {u : Value}, wn.cell? ⟨b, 0, none⟩ = some u → ∀ W', Below wn.heap.size wn W' → W'.cell? ⟨b, 0, none⟩ = some u := fun h W' hb => (hb.cell (World.block_lt_of_cell? wn _ h)).trans h
  have c1 := gcell gbl W hW
  have gg := Lib.hid (And.intro gbs (And.intro gbN gbN))
  clear gbs gbl gbN lbl lbs hcl
  refine callsIn_of_wp Tryd.func60 rfl trivial ?_ rfl
  simp only [Tryd.ntmps60, List.size_toArray, List.length_cons, List.length_nil, Nat.reduceAdd, Nat.reduceSub, Array.replicate_succ, Array.replicate_zero, List.push_toArray, List.append_toArray, List.nil_append, List.cons_append]
  gi_wp2
  gi_loopw [8] (fun t wr => ∃ (k : Nat) (ys : List (Vw wn)), k ≤ n ∧ t = .int .i64 (k : Int) ∧ Hid (ys.map (fun v => v.1.m) = ((l.take k).filter (fun x => x.ep == N)).map (·.give) ∧ ys.length ≤ k) ∧ Hid (J ys wr) ∧ Below wn.heap.size wn wr) (fun t _ => n - (intOf t).toNat)
  case atStart => exact ⟨0, [], Nat.zero_le _, rfl, Lib.hid ⟨rfl, Nat.le_refl _⟩, Lib.hid h0, hW⟩
  case round =>
    obtain ⟨k, ys, hk, rfl, gI, gJ, hB⟩ := hrel
    by_cases hlt : k < n
    · obtain ⟨ad, ep, why, ag0, aX0, an0, ac0, ae0, ag1, aX1, an1, ac1, ae1, ag2, aX2, an2, ac2, ae2, ag3, aX3, an3, ac3, ae3, m, rfl, hb1, hl1, hx1, hrel1⟩ := ens_rel h1 hlt
      obtain ⟨a0, a1, a2, a3, a4, a5, a6, a7, a8, a9, a10, a11, a12, a13⟩ := (hrel1 wr hB).2
      have i1 : (0 : Int) ≤ k := by omega
      have i2 : (k : Int) < n := by omega
      obtain ⟨Q, hQ⟩ : ∃ Q, (ep == N) = Q := ⟨_, rfl⟩
      have kb := Blk.new wr 53 #[.int .i64 ep, .int .u8 why, .bool ag0, .slice aX0 an0 ac0, .int .i64 ae0, .bool ag1, .slice aX1 an1 ac1, .int .i64 ae1, .bool ag2, .slice aX2 an2 ac2, .int .i64 ae2, .bool ag3, .slice aX3 an3 ac3, .int .i64 ae3]
      have hB1 : Below wn.heap.size wn (wr.alloc (.cells #[.int .i64 ep, .int .u8 why, .bool ag0, .slice aX0 an0 ac0, .int .i64 ae0, .bool ag1, .slice aX1 an1 ac1, .int .i64 ae1, .bool ag2, .slice aX2 an2 ac2, .int .i64 ae2, .bool ag3, .slice aX3 an3 ac3, .int .i64 ae3] 53)) := hB.alloc hB.size _
      have c2 := gcell gg.out.1 (wr.alloc (.cells #[.int .i64 ep, .int .u8 why, .bool ag0, .slice aX0 an0 ac0, .int .i64 ae0, .bool ag1, .slice aX1 an1 ac1, .int .i64 ae1, .bool ag2, .slice aX2 an2 ac2, .int .i64 ae2, .bool ag3, .slice aX3 an3 ac3, .int .i64 ae3] 53)) hB1
      have hc := cloS ep why ag0 aX0 an0 ac0 ae0 ag1 aX1 an1 ac1 ae1 ag2 aX2 an2 ac2 ae2 ag3 aX3 an3 ac3 ae3 bN N (wr.alloc (.cells #[.int .i64 ep, .int .u8 why, .bool ag0, .slice aX0 an0 ac0, .int .i64 ae0, .bool ag1, .slice aX1 an1 ac1, .int .i64 ae1, .bool ag2, .slice aX2 an2 ac2, .int .i64 ae2, .bool ag3, .slice aX3 an3 ac3, .int .i64 ae3] 53)) Q hQ (gcell gg.out.2.1 _ hB1)
      have gtk : Hid (l.take (k + 1) = l.take k ++ [⟨ep, why, m⟩]) := Lib.hid (by rw [List.take_add_one, hl1]; rfl)
      have hok : MV.ok wn ⟨ag0, aX0, an0, ac0, ae0, ag1, aX1, an1, ac1, ae1, ag2, aX2, an2, ac2, ae2, ag3, aX3, an3, ac3, ae3, m⟩ := ⟨hx1, hl _ (List.mem_of_getElem? hl1)⟩
      have gok := Lib.hid hok
      have gJ1 := Lib.hid (hJ ys wr (wr.alloc (.cells #[.int .i64 ep, .int .u8 why, .bool ag0, .slice aX0 an0 ac0, .int .i64 ae0, .bool ag1, .slice aX1 an1 ac1, .int .i64 ae1, .bool ag2, .slice aX2 an2 ac2, .int .i64 ae2, .bool ag3, .slice aX3 an3 ac3, .int .i64 ae3] 53)) gJ.out ⟨rfl, rfl, rfl, by rw [World.size_alloc]; omega, fun j hj _ => by exact Below.heap_alloc _ _ _ hj⟩)
      have gQ := Lib.hid hQ
      have hlk : k < l.length := by rw [gln.out]; exact hlt
      clear hrel1 hx1 hl1 hb1 hl h1 hok hQ gJ h0 c1
      gi_wp2_with (fail)
      refine ⟨trivial, fun _ => by omega, ?_⟩
      refine (callsIn_wide.2 hc).mono ?_
      rintro en w2 ⟨rfl, hb2⟩
      have kk := kb.below hb2 kb.lt
      have z0 := kk.cell 0
      have z1 := kk.cell 1
      have z2 := kk.cell 2
      have z3 := kk.cell 3
      have z4 := kk.cell 4
      have z5 := kk.cell 5
      have z6 := kk.cell 6
      have z7 := kk.cell 7
      have z8 := kk.cell 8
      have z9 := kk.cell 9
      have z10 := kk.cell 10
      have z11 := kk.cell 11
      have z12 := kk.cell 12
      have z13 := kk.cell 13
      simp only [List.getElem?_toArray, List.getElem?_cons_zero, List.getElem?_cons_succ] at z0 z1 z2 z3 z4 z5 z6 z7 z8 z9 z10 z11 z12 z13
      have gJ2 := Lib.hid (hJ ys _ w2 gJ1.out ⟨hb2.os, hb2.tape, hb2.output, hb2.size, fun j hj _ => hb2.block j hj⟩)
      have hB2 : Below wn.heap.size wn w2 := hB1.trans (hb2.mono hB1.size)
      clear kk kb hc gJ1
      cases Q with
      | false =>
        have gI' : Hid (ys.map (fun v => v.1.m) = ((l.take (k + 1)).filter (fun x => x.ep == N)).map (·.give) ∧ ys.length ≤ k + 1) := Lib.hid ⟨by
          rw [gtk.out, List.filter_append, List.map_append, ← gI.out.1]
          simp [gQ.out], by have := gI.out.2; omega⟩
        clear gI gtk gQ hY
        gi_wp2
        repeat (refine ⟨fun _ h => (by cases h), ?_⟩; gi_wp2)
        go_roundw
        case rel => exact ⟨k + 1, ys, by omega, by go_num, gI', gJ2, hB2⟩
        case measure => simp [intOf]; omega
      | true =>
        obtain ⟨fn, tmps, assign, body, hy, hR⟩ := hY ys ⟨⟨ag0, aX0, an0, ac0, ae0, ag1, aX1, an1, ac1, ae1, ag2, aX2, an2, ac2, ae2, ag3, aX3, an3, ac3, ae3, m⟩, gok.out⟩ w2 gJ2.out (Nat.lt_of_le_of_lt gI.out.2 hlk)
        simp only [encV, MV.val] at hy
        have gI' : Hid ((ys ++ [(⟨⟨ag0, aX0, an0, ac0, ae0, ag1, aX1, an1, ac1, ae1, ag2, aX2, an2, ac2, ae2, ag3, aX3, an3, ac3, ae3, m⟩, gok.out⟩ : Vw wn)]).map (fun v => v.1.m) = ((l.take (k + 1)).filter (fun x => x.ep == N)).map (·.give) ∧ (ys ++ [(⟨⟨ag0, aX0, an0, ac0, ae0, ag1, aX1, an1, ac1, ae1, ag2, aX2, an2, ac2, ae2, ag3, aX3, an3, ac3, ae3, m⟩, gok.out⟩ : Vw wn)]).length ≤ k + 1) := Lib.hid ⟨by
          rw [gtk.out, List.filter_append, List.map_append, List.map_append, ← gI.out.1]
          simp [gQ.out], by rw [List.length_append]; have := gI.out.2; simp; omega⟩
        have gP : Hid ((ys ++ [(⟨⟨ag0, aX0, an0, ac0, ae0, ag1, aX1, an1, ac1, ae1, ag2, aX2, an2, ac2, ae2, ag3, aX3, an3, ac3, ae3, m⟩, gok.out⟩ : Vw wn)]).map (fun v => v.1.m) ++ ((l.drop (k + 1)).filter (fun x => x.ep == N)).map (·.give) = (l.filter (fun x => x.ep == N)).map (·.give)) := Lib.hid (by rw [gI'.out.1, ← List.map_append, ← List.filter_append, List.take_append_drop])
        clear gI gtk gQ hY
        gi_wp2
        refine ⟨fun _ => by omega, hR.mono ?_⟩
        rintro e W3 (⟨rfl, hJ3, hk3⟩ | ⟨rfl, hJx3⟩)
        · have gJ3 := Lib.hid hJ3
          clear hJ3
          gi_wp2
          go_roundw
          case rel => exact ⟨k + 1, _, by omega, by go_num, gI', gJ3, hB2.trans hk3⟩
          case measure => simp [intOf]; omega
        · gi_wp2
          refine bodyPost_ret (results_none rfl _ _ _) rfl ?_
          exact ⟨⟨_, rfl⟩, .inr ⟨_, ⟨_, gP.out⟩, hJx3⟩⟩
    · obtain rfl : k = n := lt_n hk hlt
      have gI' := gI.out.1
      rw [List.take_of_length_le (by rw [gln.out]; omega)] at gI'
      gi_wp2
      go_end0
      exact ⟨⟨_, rfl⟩, .inl ⟨ys, gI', gJ.out⟩⟩
theorem chosenS_seq (wn : World) (A : Option Addr) (n c : Nat) (l : List En) (hm : n ≤ 8300) (h1 : Ens wn wn.heap.size A n l) (hl : ∀ x ∈ l, mayM x.give = true ∧ ltM4 x.give) (bl bs : Nat) (bN : Nat) (N : Int)
    (gbl : wn.cell? ⟨bl, 0, none⟩ = some (.slice A n c)) (gbs : wn.cell? ⟨bs, 0, none⟩ = some (.func (.func 41) #[] #[.pointer (some ⟨bN, 0, none⟩)])) (gbN : wn.cell? ⟨bN, 0, none⟩ = some (.int .i64 N))
    (nn : Nat) (hn : 2 ≤ nn) (w0 : World) (hw0 : Below wn.heap.size wn w0) :
    SeqStopsK Fence.wide nn Tryd.prog 60 #[.pointer (some ⟨bl, 0, none⟩), .pointer (some ⟨bs, 0, none⟩)] (encV wn) (KpB wn) (fun ys => ys.map (fun v => v.1.m) = (l.filter (fun x => x.ep == N)).map (·.give)) (fun pre => ∃ r, pre.map (fun v => v.1.m) ++ r = (l.filter (fun x => x.ep == N)).map (·.give)) l.length w0 := by
  intro lp J Jx W hB hJ hJx hY h0
  exact chosenS_in wn A n c l hm h1 hl bl bs bN N gbl gbs gbN nn lp hn J Jx W (hw0.trans (hB.mono hw0.size)) (fun s A B h hg => hJ s A B none h hg (fun r e => by cases e)) hY h0
set_option maxHeartbeats 8000000 in
theorem chosenO_in (wn : World) (A : Option Addr) (n c : Nat) (l : List En) (hm : n ≤ 8300) (h1 : Ens wn wn.heap.size A n l) (hl : ∀ x ∈ l, mayM x.give = true ∧ ltM4 x.give) (bl bs : Nat) (bN : Nat) (N : Int) (bK : Nat) (y : Int)
    (gbl : wn.cell? ⟨bl, 0, none⟩ = some (.slice A n c)) (gbs : wn.cell? ⟨bs, 0, none⟩ = some (.func (.func 43) #[] #[.pointer (some ⟨bN, 0, none⟩), .pointer (some ⟨bK, 0, none⟩)])) (gbN : wn.cell? ⟨bN, 0, none⟩ = some (.int .i64 N)) (gbK : wn.cell? ⟨bK, 0, none⟩ = some (.int .u8 y))
    (nn lp : Nat) (hn : 2 ≤ nn) (J Jx : List (Vw wn) → World → Prop) (W : World) (hW : Below wn.heap.size wn W)
    (hJ : ∀ s A B, J s A → A.grownBy B none → J s B)
    (hY : ∀ pre x W1, J pre W1 → pre.length < l.length → YieldAt Fence.wide (nn - 1) Tryd.prog lp (encV wn x) W1 fun e W' => (e = .returned (.bool true) ∧ J (pre ++ [x]) W' ∧ KpB wn W1 W') ∨ (e = .returned (.bool false) ∧ Jx (pre ++ [x]) W'))
    (h0 : J [] W) :
    CallsIn Fence.wide nn Tryd.prog 60 #[.func (.yield lp) #[] #[], .pointer (some ⟨bl, 0, none⟩), .pointer (some ⟨bs, 0, none⟩)] W fun e W' => (∃ v, e = .returned v) ∧
      ((∃ ys : List (Vw wn), ys.map (fun v => v.1.m) = (l.filter (fun x => x.ep == N && x.why == y)).map (·.give) ∧ J ys W') ∨ (∃ pre : List (Vw wn), (∃ r, pre.map (fun v => v.1.m) ++ r = (l.filter (fun x => x.ep == N && x.why == y)).map (·.give)) ∧ Jx pre W')) := by
  have gln := Lib.hid (ens_len h1)
  have hcl : wn.heap.size ≥ 0 := Nat.zero_le _
  have lbl := World.block_lt_of_cell? wn _ gbl
  have lbs := World.block_lt_of_cell? wn _ gbs
  have gcell : ∀ {b : Nat} {u : Value}, wn.cell? ⟨b, 0, none⟩ = some u → ∀ W', Below wn.heap.size wn W' → W'.cell? ⟨b, 0, none⟩ = some u := fun h W' hb => (hb.cell (World.block_lt_of_cell? wn _ h)).trans h
  have c1 := gcell gbl W hW
  have gg := Lib.hid (And.intro gbs (And.intro gbN gbK))
  clear gbs gbl gbN gbK lbl lbs hcl
  refine callsIn_of_wp Tryd.func60 rfl trivial ?_ rfl
  simp only [Tryd.ntmps60, List.size_toArray, List.length_cons, List.length_nil, Nat.reduceAdd, Nat.reduceSub, Array.replicate_succ, Array.replicate_zero, List.push_toArray, List.append_toArray, List.nil_append, List.cons_append]
  gi_wp2
  gi_loopw [8] (fun t wr => ∃ (k : Nat) (ys : List (Vw wn)), k ≤ n ∧ t = .int .i64 (k : Int) ∧ Hid (ys.map (fun v => v.1.m) = ((l.take k).filter (fun x => x.ep == N && x.why == y)).map (·.give) ∧ ys.length ≤ k) ∧ Hid (J ys wr) ∧ Below wn.heap.size wn wr) (fun t _ => n - (intOf t).toNat)
  case atStart => exact ⟨0, [], Nat.zero_le _, rfl, Lib.hid ⟨rfl, Nat.le_refl _⟩, Lib.hid h0, hW⟩
  case round =>
    obtain ⟨k, ys, hk, rfl, gI, gJ, hB⟩ := hrel
    by_cases hlt : k < n
    · obtain ⟨ad, ep, why, ag0, aX0, an0, ac0, ae0, ag1, aX1, an1, ac1, ae1, ag2, aX2, an2, ac2, ae2, ag3, aX3, an3, ac3, ae3, m, rfl, hb1, hl1, hx1, hrel1⟩ := ens_rel h1 hlt
      obtain ⟨a0, a1, a2, a3, a4, a5, a6, a7, a8, a9, a10, a11, a12, a13⟩ := (hrel1 wr hB).2
      have i1 : (0 : Int) ≤ k := by omega
      have i2 : (k : Int) < n := by omega
      obtain ⟨Q, hQ⟩ : ∃ Q, (ep == N && why == y) = Q := ⟨_, rfl⟩
      have kb := Blk.new wr 53 #[.int .i64 ep, .int .u8 why, .bool ag0, .slice aX0 an0 ac0, .int .i64 ae0, .bool ag1, .slice aX1 an1 ac1, .int .i64 ae1, .bool ag2, .slice aX2 an2 ac2, .int .i64 ae2, .bool ag3, .slice aX3 an3 ac3, .int .i64 ae3]
      have hB1 : Below wn.heap.size wn (wr.alloc (.cells #[.int .i64 ep, .int .u8 why, .bool ag0, .slice aX0 an0 ac0, .int .i64 ae0, .bool ag1, .slice aX1 an1 ac1, .int .i64 ae1, .bool ag2, .slice aX2 an2 ac2, .int .i64 ae2, .bool ag3, .slice aX3 an3 ac3, .int .i64 ae3] 53)) := hB.alloc hB.size _
      have c2 := gcell gg.out.1 (wr.alloc (.cells #[.int .i64 ep, .int .u8 why, .bool ag0, .slice aX0 an0 ac0, .int .i64 ae0, .bool ag1, .slice aX1 an1 ac1, .int .i64 ae1, .bool ag2, .slice aX2 an2 ac2, .int .i64 ae2, .bool ag3, .slice aX3 an3 ac3, .int .i64 ae3] 53)) hB1
      have hc := cloO ep why ag0 aX0 an0 ac0 ae0 ag1 aX1 an1 ac1 ae1 ag2 aX2 an2 ac2 ae2 ag3 aX3 an3 ac3 ae3 bN N bK y (wr.alloc (.cells #[.int .i64 ep, .int .u8 why, .bool ag0, .slice aX0 an0 ac0, .int .i64 ae0, .bool ag1, .slice aX1 an1 ac1, .int .i64 ae1, .bool ag2, .slice aX2 an2 ac2, .int .i64 ae2, .bool ag3, .slice aX3 an3 ac3, .int .i64 ae3] 53)) Q hQ (gcell gg.out.2.1 _ hB1) (gcell gg.out.2.2 _ hB1)
      have gtk : Hid (l.take (k + 1) = l.take k ++ [⟨ep, why, m⟩]) := Lib.hid (by rw [List.take_add_one, hl1]; rfl)
      have hok : MV.ok wn ⟨ag0, aX0, an0, ac0, ae0, ag1, aX1, an1, ac1, ae1, ag2, aX2, an2, ac2, ae2, ag3, aX3, an3, ac3, ae3, m⟩ := ⟨hx1, hl _ (List.mem_of_getElem? hl1)⟩
      have gok := Lib.hid hok
      have gJ1 := Lib.hid (hJ ys wr (wr.alloc (.cells #[.int .i64 ep, .int .u8 why, .bool ag0, .slice aX0 an0 ac0, .int .i64 ae0, .bool ag1, .slice aX1 an1 ac1, .int .i64 ae1, .bool ag2, .slice aX2 an2 ac2, .int .i64 ae2, .bool ag3, .slice aX3 an3 ac3, .int .i64 ae3] 53)) gJ.out ⟨rfl, rfl, rfl, by rw [World.size_alloc]; omega, fun j hj _ => by exact Below.heap_alloc _ _ _ hj⟩)
      have gQ := Lib.hid hQ
      have hlk : k < l.length := by rw [gln.out]; exact hlt
      clear hrel1 hx1 hl1 hb1 hl h1 hok hQ gJ h0 c1
      gi_wp2_with (fail)
      refine ⟨trivial, fun _ => by omega, ?_⟩
      refine (callsIn_wide.2 hc).mono ?_
      rintro en w2 ⟨rfl, hb2⟩
      have kk := kb.below hb2 kb.lt
      have z0 := kk.cell 0
      have z1 := kk.cell 1
      have z2 := kk.cell 2
      have z3 := kk.cell 3
      have z4 := kk.cell 4
      have z5 := kk.cell 5
      have z6 := kk.cell 6
      have z7 := kk.cell 7
      have z8 := kk.cell 8
      have z9 := kk.cell 9
      have z10 := kk.cell 10
      have z11 := kk.cell 11
      have z12 := kk.cell 12
      have z13 := kk.cell 13
      simp only [List.getElem?_toArray, List.getElem?_cons_zero, List.getElem?_cons_succ] at z0 z1 z2 z3 z4 z5 z6 z7 z8 z9 z10 z11 z12 z13
      have gJ2 := Lib.hid (hJ ys _ w2 gJ1.out ⟨hb2.os, hb2.tape, hb2.output, hb2.size, fun j hj _ => hb2.block j hj⟩)
      have hB2 : Below wn.heap.size wn w2 := hB1.trans (hb2.mono hB1.size)
      clear kk kb hc gJ1
      cases Q with
      | false =>
        have gI' : Hid (ys.map (fun v => v.1.m) = ((l.take (k + 1)).filter (fun x => x.ep == N && x.why == y)).map (·.give) ∧ ys.length ≤ k + 1) := Lib.hid ⟨by
          rw [gtk.out, List.filter_append, List.map_append, ← gI.out.1]
          simp [gQ.out], by have := gI.out.2; omega⟩
        clear gI gtk gQ hY
        gi_wp2
        repeat (refine ⟨fun _ h => (by cases h), ?_⟩; gi_wp2)
        go_roundw
        case rel => exact ⟨k + 1, ys, by omega, by go_num, gI', gJ2, hB2⟩
        case measure => simp [intOf]; omega
      | true =>
        obtain ⟨fn, tmps, assign, body, hy, hR⟩ := hY ys ⟨⟨ag0, aX0, an0, ac0, ae0, ag1, aX1, an1, ac1, ae1, ag2, aX2, an2, ac2, ae2, ag3, aX3, an3, ac3, ae3, m⟩, gok.out⟩ w2 gJ2.out (Nat.lt_of_le_of_lt gI.out.2 hlk)
        simp only [encV, MV.val] at hy
        have gI' : Hid ((ys ++ [(⟨⟨ag0, aX0, an0, ac0, ae0, ag1, aX1, an1, ac1, ae1, ag2, aX2, an2, ac2, ae2, ag3, aX3, an3, ac3, ae3, m⟩, gok.out⟩ : Vw wn)]).map (fun v => v.1.m) = ((l.take (k + 1)).filter (fun x => x.ep == N && x.why == y)).map (·.give) ∧ (ys ++ [(⟨⟨ag0, aX0, an0, ac0, ae0, ag1, aX1, an1, ac1, ae1, ag2, aX2, an2, ac2, ae2, ag3, aX3, an3, ac3, ae3, m⟩, gok.out⟩ : Vw wn)]).length ≤ k + 1) := Lib.hid ⟨by
          rw [gtk.out, List.filter_append, List.map_append, List.map_append, ← gI.out.1]
          simp [gQ.out], by rw [List.length_append]; have := gI.out.2; simp; omega⟩
        have gP : Hid ((ys ++ [(⟨⟨ag0, aX0, an0, ac0, ae0, ag1, aX1, an1, ac1, ae1, ag2, aX2, an2, ac2, ae2, ag3, aX3, an3, ac3, ae3, m⟩, gok.out⟩ : Vw wn)]).map (fun v => v.1.m) ++ ((l.drop (k + 1)).filter (fun x => x.ep == N && x.why == y)).map (·.give) = (l.filter (fun x => x.ep == N && x.why == y)).map (·.give)) := Lib.hid (by rw [gI'.out.1, ← List.map_append, ← List.filter_append, List.take_append_drop])
        clear gI gtk gQ hY
        gi_wp2
        refine ⟨fun _ => by omega, hR.mono ?_⟩
        rintro e W3 (⟨rfl, hJ3, hk3⟩ | ⟨rfl, hJx3⟩)
        · have gJ3 := Lib.hid hJ3
          clear hJ3
          gi_wp2
          go_roundw
          case rel => exact ⟨k + 1, _, by omega, by go_num, gI', gJ3, hB2.trans hk3⟩
          case measure => simp [intOf]; omega
        · gi_wp2
          refine bodyPost_ret (results_none rfl _ _ _) rfl ?_
          exact ⟨⟨_, rfl⟩, .inr ⟨_, ⟨_, gP.out⟩, hJx3⟩⟩
    · obtain rfl : k = n := lt_n hk hlt
      have gI' := gI.out.1
      rw [List.take_of_length_le (by rw [gln.out]; omega)] at gI'
      gi_wp2
      go_end0
      exact ⟨⟨_, rfl⟩, .inl ⟨ys, gI', gJ.out⟩⟩
theorem chosenO_seq (wn : World) (A : Option Addr) (n c : Nat) (l : List En) (hm : n ≤ 8300) (h1 : Ens wn wn.heap.size A n l) (hl : ∀ x ∈ l, mayM x.give = true ∧ ltM4 x.give) (bl bs : Nat) (bN : Nat) (N : Int) (bK : Nat) (y : Int)
    (gbl : wn.cell? ⟨bl, 0, none⟩ = some (.slice A n c)) (gbs : wn.cell? ⟨bs, 0, none⟩ = some (.func (.func 43) #[] #[.pointer (some ⟨bN, 0, none⟩), .pointer (some ⟨bK, 0, none⟩)])) (gbN : wn.cell? ⟨bN, 0, none⟩ = some (.int .i64 N)) (gbK : wn.cell? ⟨bK, 0, none⟩ = some (.int .u8 y))
    (nn : Nat) (hn : 2 ≤ nn) (w0 : World) (hw0 : Below wn.heap.size wn w0) :
    SeqStopsK Fence.wide nn Tryd.prog 60 #[.pointer (some ⟨bl, 0, none⟩), .pointer (some ⟨bs, 0, none⟩)] (encV wn) (KpB wn) (fun ys => ys.map (fun v => v.1.m) = (l.filter (fun x => x.ep == N && x.why == y)).map (·.give)) (fun pre => ∃ r, pre.map (fun v => v.1.m) ++ r = (l.filter (fun x => x.ep == N && x.why == y)).map (·.give)) l.length w0 := by
  intro lp J Jx W hB hJ hJx hY h0
  exact chosenO_in wn A n c l hm h1 hl bl bs bN N bK y gbl gbs gbN gbK nn lp hn J Jx W (hw0.trans (hB.mono hw0.size)) (fun s A B h hg => hJ s A B none h hg (fun r e => by cases e)) hY h0
end Go.Proofs.YtmppalgecboeeaaDoor
