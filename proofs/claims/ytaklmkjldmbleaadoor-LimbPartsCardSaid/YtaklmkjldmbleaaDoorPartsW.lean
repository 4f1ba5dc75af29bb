/- Limb's Door: the walk of the law LimbParts. -/
import Derived.Test.YtaklmkjldmbleaaDoorAl
namespace Go.Proofs.YtaklmkjldmbleaaDoor
open Go.ChangeShapes Go.WideShapes Go.ChangeAt Go.RowKit
set_option linter.unusedSimpArgs false
set_option linter.unusedVariables false
set_option maxRecDepth 100000 in
set_option maxHeartbeats 16000000 in
theorem LimbParts.walk (A A2 : Option Addr) (n n2 c c2 : Nat) (a b : List Nat) (hn : a.length = n) (hn2 : b.length = n2) (hnc : n ≤ c) (hnc2 : n2 ≤ c2) (ha : ∀ x ∈ a, x < 4294967296) (hb : ∀ x ∈ b, x < 4294967296) (w : World) (ra : Reads w w.heap.size 1 A n (ints .u32 a)) (rb : Reads w w.heap.size 1 A2 n2 (ints .u32 b)) (hT : Tab w) :
    Calls Tryd.prog 5 #[.slice A n c, .slice A2 n2 c2] w fun e w' => e = .returned (.bool true) ∧ Below w.heap.size w w' := by
  have bw := Below.refl w.heap.size w
  have hal := alive_any w hT
  by_cases h1 : 42 < n
  · have g1 := fun w' => great_any A n c true (decide_eq_true (by omega)) w'
    clear ra rb ha hb hn hn2 hT h1
    go_enter Tryd.func5, Tryd.ntmps5
    go_wp2_with fail
    refine hal.mono ?_
    rintro e v1 ⟨rfl, hb⟩
    replace bw := bw.trans (hb.mono bw.size)
    clear hb hal
    go_wp2_with fail
    refine (g1 _).mono ?_
    rintro e v2 ⟨rfl, rfl⟩
    go_wp2
    go_ret
    exact ⟨rfl, bw⟩
  have g1 := fun w' => great_any A n c false (decide_eq_false (by omega)) w'
  by_cases h2 : 42 < n2
  · have g2 := fun w' => great_any A2 n2 c2 true (decide_eq_true (by omega)) w'
    clear ra rb ha hb hn hn2 hT h2
    go_enter Tryd.func5, Tryd.ntmps5
    go_wp2_with fail
    refine hal.mono ?_
    rintro e v1 ⟨rfl, hb⟩
    replace bw := bw.trans (hb.mono bw.size)
    clear hb hal
    go_wp2_with fail
    refine (g1 _).mono ?_
    rintro e v2 ⟨rfl, rfl⟩
    go_wp2_with fail
    refine (g2 _).mono ?_
    rintro e v3 ⟨rfl, rfl⟩
    go_wp2
    go_ret
    exact ⟨rfl, bw⟩
  have g2 := fun w' => great_any A2 n2 c2 false (decide_eq_false (by omega)) w'
  have n42 : n ≤ 42 := by omega
  have m42 : n2 ≤ 42 := by omega
  have gn := Lib.hid hn
  have gn2 := Lib.hid hn2
  have gha := Lib.hid ha
  have ghb := Lib.hid hb
  obtain ⟨⟨q, r, E⟩, hA1⟩ : ∃ R, divS a b = R := ⟨_, rfl⟩
  obtain ⟨m1, hm1⟩ : ∃ m, q.length = m := ⟨_, rfl⟩
  obtain ⟨m2, hm2⟩ : ∃ m, r.length = m := ⟨_, rfl⟩
  by_cases h0 : E = 0
  · subst h0
    obtain ⟨hql, hrl, q40, r40, hc, p, hp, hpl, p40, hs⟩ := parts ha hA1
    obtain ⟨m3, hm3⟩ : ∃ m, p.length = m := ⟨_, rfl⟩
    have l1 : m1 ≤ 40 := by omega
    have l2 : m2 ≤ 40 := by omega
    have l3 : m3 ≤ 40 := by omega
    have k1 := Lib.hid hql
    have k2 := Lib.hid hrl
    have k3 := Lib.hid hc
    have k4 := Lib.hid hp
    have k5 := Lib.hid hpl
    have k6 := Lib.hid hs
    have gm1 := Lib.hid hm1
    have gm2 := Lib.hid hm2
    have gm3 := Lib.hid hm3
    have k7 := Lib.hid hA1
    clear hA1 hm1 hm2 hn hn2 ha hb h1 h2 hql hrl hc hp hpl hs hm3 q40 r40 p40
    go_enter Tryd.func5, Tryd.ntmps5
    go_wp2_with fail
    refine (hal).mono ?_
    rintro en v1 ⟨rfl, hb⟩
    replace ra := (ra.below hb).more hb.size
    replace rb := (rb.below hb).more hb.size
    replace bw := bw.trans (hb.mono bw.size)
    clear hb
    clear hal hT
    go_wp2_with fail
    refine (g1 _).mono ?_
    rintro en v1 ⟨rfl, rfl⟩
    go_wp2_with fail
    refine (g2 _).mono ?_
    rintro en v1 ⟨rfl, rfl⟩
    go_wp2_with fail
    clear g1 g2
    refine (divR A A2 c c2 gn.out gn2.out gha.out ghb.out _ ra rb gm1.out gm2.out k7.out).mono ?_
    rintro en v2 ⟨X1, x1, X2, x2, rfl, rq, rr, hb⟩
    replace ra := (ra.below hb).more hb.size
    replace rb := (rb.below hb).more hb.size
    replace bw := bw.trans (hb.mono bw.size)
    clear hb
    go_wp2_with fail
    refine (cmpR X2 A2 x2 c2 gm2.out gn2.out k2.out ghb.out _ rr rb k3.out).mono ?_
    rintro en v3 ⟨rfl, hb⟩
    replace ra := (ra.below hb).more hb.size
    replace rb := (rb.below hb).more hb.size
    replace rq := (rq.below hb).more hb.size
    replace rr := (rr.below hb).more hb.size
    replace bw := bw.trans (hb.mono bw.size)
    clear hb
    go_wp2_with fail
    refine (mulR gm3.out X1 A2 x1 c2 gm1.out gn2.out k1.out ghb.out _ rq rb k4.out).mono ?_
    rintro en v4 ⟨X3, x3, rfl, hx3, rp, hb⟩
    replace ra := (ra.below hb).more hb.size
    replace rb := (rb.below hb).more hb.size
    replace rq := (rq.below hb).more hb.size
    replace rr := (rr.below hb).more hb.size
    replace bw := bw.trans (hb.mono bw.size)
    clear hb
    go_wp2_with fail
    refine (addR gn.out X3 X2 x3 x2 gm3.out gm2.out k5.out k2.out _ rp rr k6.out).mono ?_
    rintro en v5 ⟨X4, x4, rfl, hx4, rs, hb⟩
    replace ra := (ra.below hb).more hb.size
    replace rb := (rb.below hb).more hb.size
    replace rq := (rq.below hb).more hb.size
    replace rr := (rr.below hb).more hb.size
    replace rp := (rp.below hb).more hb.size
    replace bw := bw.trans (hb.mono bw.size)
    clear hb
    go_wp2_with fail
    refine (sameR X4 A x4 c gn.out gn.out _ rs ra (Q := true) (by omega) (by omega) (decide_eq_true rfl)).mono ?_
    rintro en v6 ⟨rfl, hb⟩
    replace ra := (ra.below hb).more hb.size
    replace rb := (rb.below hb).more hb.size
    replace rq := (rq.below hb).more hb.size
    replace rr := (rr.below hb).more hb.size
    replace rp := (rp.below hb).more hb.size
    replace rs := (rs.below hb).more hb.size
    replace bw := bw.trans (hb.mono bw.size)
    clear hb
    go_wp2
    go_ret
    exact ⟨rfl, bw⟩
  · obtain ⟨rfl, rfl⟩ := divS_bad hA1 h0
    have e1 : 0 = m1 := hm1
    have e2 : 0 = m2 := hm2
    subst e1 e2
    have k7 := Lib.hid hA1
    have y1 : (E != 0) = true := bne_iff_ne.2 h0
    clear hA1 hm1 hm2 hn hn2 ha hb h1 h2 h0
    go_enter Tryd.func5, Tryd.ntmps5
    go_wp2_with fail
    refine (hal).mono ?_
    rintro en v1 ⟨rfl, hb⟩
    replace ra := (ra.below hb).more hb.size
    replace rb := (rb.below hb).more hb.size
    replace bw := bw.trans (hb.mono bw.size)
    clear hb
    clear hal hT
    go_wp2_with fail
    refine (g1 _).mono ?_
    rintro en v1 ⟨rfl, rfl⟩
    go_wp2_with fail
    refine (g2 _).mono ?_
    rintro en v1 ⟨rfl, rfl⟩
    go_wp2_with fail
    clear g1 g2
    refine (divR A A2 c c2 gn.out gn2.out gha.out ghb.out _ ra rb (mq := 0) (mr := 0) rfl rfl k7.out).mono ?_
    rintro en v2 ⟨X1, x1, X2, x2, rfl, rq, rr, hb⟩
    replace ra := (ra.below hb).more hb.size
    replace rb := (rb.below hb).more hb.size
    replace bw := bw.trans (hb.mono bw.size)
    clear hb
    go_wp2
    go_ret
    exact ⟨rfl, bw⟩
end Go.Proofs.YtaklmkjldmbleaaDoor
