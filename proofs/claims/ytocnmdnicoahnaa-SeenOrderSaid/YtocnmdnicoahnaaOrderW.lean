/- Seen: the walk of the law SeenOrder. -/
import Derived.Test.YtocnmdnicoahnaaH
import Derived.Test.YtocnmdnicoahnaaOrderP
import Derived.Lib.Hide
namespace Go.Proofs.Ytocnmdnicoahnaa.SeenOrder
open Go.ChangeShapes Go.WideShapes Go.ChangeAt Go.RowKit
set_option linter.unusedSimpArgs false
set_option linter.unusedVariables false
def Ahead (l : List Int) (k : Nat) (x : Int) : Prop := ∃ j, j < k ∧ l.getD j 0 = x
def Behind (l : List Int) (n k : Nat) (x : Int) : Prop := ∃ j, j < k ∧ l.getD (n - 1 - j) 0 = x
theorem ahead_more {l : List Int} {k : Nat} (x : Int) : (Ahead l k x ∨ x = l.getD k 0) ↔ Ahead l (k + 1) x := by
  constructor
  · rintro (⟨j, h1, h2⟩ | rfl)
    · exact ⟨j, by omega, h2⟩
    · exact ⟨k, by omega, rfl⟩
  · rintro ⟨j, h1, h2⟩
    rcases Nat.lt_or_ge j k with h | h
    · exact .inl ⟨j, h, h2⟩
    · obtain rfl : j = k := by omega
      exact .inr h2.symm
theorem behind_more {l : List Int} {n k : Nat} (x : Int) : (Behind l n k x ∨ x = l.getD (n - 1 - k) 0) ↔ Behind l n (k + 1) x := by
  constructor
  · rintro (⟨j, h1, h2⟩ | rfl)
    · exact ⟨j, by omega, h2⟩
    · exact ⟨k, by omega, rfl⟩
  · rintro ⟨j, h1, h2⟩
    rcases Nat.lt_or_ge j k with h | h
    · exact .inl ⟨j, h, h2⟩
    · obtain rfl : j = k := by omega
      exact .inr h2.symm
theorem ends {l : List Int} {n : Nat} (x : Int) : Ahead l n x ↔ Behind l n n x := by
  constructor
  · rintro ⟨j, h1, h2⟩
    exact ⟨n - 1 - j, by omega, by rw [show n - 1 - (n - 1 - j) = j by omega]; exact h2⟩
  · rintro ⟨j, h1, h2⟩
    exact ⟨n - 1 - j, by omega, h2⟩
/-- A value is a slice that reads as a list with just the numbers of S that may be. -/
def St (S : Int → Prop) (k : Nat) (w : World) (A : Option Addr) (m : Nat) (p : List Int) : Prop := m ≤ k ∧ p.length = m ∧ Reads w w.heap.size 1 A m (ints p) ∧ Got p S
theorem St.below {S : Int → Prop} {k : Nat} {w w' : World} {A : Option Addr} {m : Nat} {p : List Int} (h : St S k w A m p) (hb : Below w.heap.size w w') : St S k w' A m p :=
  ⟨h.1, h.2.1, (h.2.2.1.below hb).more hb.size, h.2.2.2⟩
theorem St.more {S T : Int → Prop} {k j : Nat} {w : World} {A : Option Addr} {m : Nat} {p : List Int} (h : St S k w A m p) (hk : k ≤ j) (hT : ∀ x, S x ↔ T x) : St T j w A m p :=
  ⟨Nat.le_trans h.1 hk, h.2.1, h.2.2.1, h.2.2.2.congr hT⟩
theorem step (A : Option Addr) (m c : Nat) (p : List Int) (k : Nat) (hm : k ≤ 100) (t : Int) (S T : Int → Prop) (hT : ∀ x, (S x ∨ x = t) ↔ T x) (w : World) (h : St S k w A m p) :
    Calls Try.prog 12 #[.slice A m c, .int .i64 t] w fun en w' => ∃ A' m' c' e, en = .returned (.tuple #[.slice A' m' c', .int .i64 e]) ∧ Below w.heap.size w w' ∧
      (((e == 0) = true ∧ ∃ p', St T (k + 1) w' A' m' p') ∨ ((e == 0) = false ∧ St T (k + 1) w' A m p)) := by
  obtain ⟨h1, h2, h3, h4⟩ := h
  refine (put_step A m c p h2 (by omega) t S h4 w h3).mono ?_
  rintro en w' ⟨A', m', c', e, rfl, hb, ⟨he, p', hp, rfl, hR, hG⟩ | ⟨he, hG⟩⟩
  · exact ⟨_, _, _, _, rfl, hb, .inl ⟨he, p', by omega, hp, hR, hG.congr hT⟩⟩
  · exact ⟨_, _, _, _, rfl, hb, .inr ⟨he, by omega, h2, (h3.below hb).more hb.size, hG.congr hT⟩⟩
theorem has_step (A : Option Addr) (m c : Nat) (p : List Int) (k : Nat) (hm : k ≤ 100) (t : Int) (S : Int → Prop) (w : World) (h : St S k w A m p) (hS : S t) :
    Calls Try.prog 13 #[.slice A m c, .int .i64 t] w fun en w' => ∃ b e, en = .returned (.tuple #[.bool b, .int .i64 e]) ∧ Below w.heap.size w w' ∧ ((b = true ∧ (e != 0) = false ∧ decide (0 ≤ t) = true ∧ decide (t ≤ 1048575) = true) ∨ (b = false ∧ (decide (0 ≤ t) = false ∨ decide (0 ≤ t) = true ∧ decide (t ≤ 1048575) = false))) := by
  obtain ⟨h1, h2, h3, h4⟩ := h
  by_cases ha : askE p t = 0
  · obtain ⟨h0, t0, t1⟩ := ask_zero ha
    refine (has_yes A m c p h2 t ha w h3).mono ?_
    rintro en w' ⟨rfl, hb⟩
    have : hasB p t = true := decide_eq_true ((h4.2 t).mpr ⟨hS, t0, t1⟩)
    exact ⟨_, _, rfl, hb, .inl ⟨this, rfl, decide_eq_true t0, decide_eq_true t1⟩⟩
  · have ht : ¬ (0 ≤ t ∧ t ≤ 1048575) := fun h2 => ha (by unfold askE; rw [if_pos h4.1, if_neg (by omega)])
    refine (has_no A m c p h2 t _ rfl (by simpa using ha) (by simpa using ha) w h3).mono ?_
    rintro en w' ⟨rfl, hb⟩
    refine ⟨_, _, rfl, hb, .inr ⟨rfl, ?_⟩⟩
    by_cases t0 : 0 ≤ t
    · exact .inr ⟨decide_eq_true t0, decide_eq_false (by omega)⟩
    · exact .inl (decide_eq_false t0)
set_option maxHeartbeats 8000000 in
set_option maxRecDepth 100000 in
theorem many (A : Option Addr) (n c : Nat) (l : List Int) (h : decide ((100 : Int) < n) = true) (w : World) :
    Calls Try.prog 7 #[.slice A n c] w fun en w' => en = .returned (.bool true) ∧ Below w.heap.size w w' := by
  go_enter Try.func7, Try.ntmps7
  go_wp2_with fail
  refine (alive_any _).mono ?_
  rintro en w1 ⟨rfl, hb1⟩
  go_wp2
  go_ret
  exact ⟨rfl, hb1⟩
set_option maxHeartbeats 8000000 in
set_option maxRecDepth 100000 in
theorem few (A : Option Addr) (n c : Nat) (l : List Int) (hn : l.length = n) (hm : n ≤ 100) (h : decide ((100 : Int) < n) = false) (w : World) (hR : Reads w w.heap.size 1 A n (ints l)) :
    Calls Try.prog 7 #[.slice A n c] w fun en w' => en = .returned (.bool true) ∧ Below w.heap.size w w' := by
  go_enter Try.func7, Try.ntmps7
  go_wp2_with fail
  refine (alive_any _).mono ?_
  rintro en w1 ⟨rfl, hb1⟩
  go_wp2
  go_loopw [4, 5, 6] (fun a b i wr => ∃ (k : Nat) (Aa : Option Addr) (na ca : Nat) (la : List Int) (Ab : Option Addr) (nb cb : Nat) (lb : List Int), k ≤ n ∧ a = .slice Aa na ca ∧ b = .slice Ab nb cb ∧ i = .int .i64 k ∧ Below w.heap.size w wr ∧ St (Ahead l k) k wr Aa na la ∧ St (Behind l n k) k wr Ab nb lb) (fun _ _ i _ => n - (intOf i).toNat)
  case atStart => exact ⟨0, none, 0, 0, [], none, 0, 0, [], by omega, rfl, rfl, rfl, hb1, ⟨by omega, rfl, Reads.none_, got_nil.congr fun x => ⟨False.elim, fun ⟨j, h, _⟩ => absurd h (by omega)⟩⟩, ⟨by omega, rfl, Reads.none_, got_nil.congr fun x => ⟨False.elim, fun ⟨j, h, _⟩ => absurd h (by omega)⟩⟩⟩
  case round =>
    obtain ⟨k, Aa, na, ca, la, Ab, nb, cb, lb, hk, rfl, rfl, rfl, hB, hSa, hSb⟩ := hrel
    by_cases hlt : k < n
    · have hlt2 : n - 1 - k < n := by omega
      obtain ⟨ad, hA, hab, cA⟩ := reads_at hn (hR.below hB) hlt
      subst hA
      obtain ⟨j, hj⟩ : ∃ j, j = n - 1 - k := ⟨_, rfl⟩
      rw [← hj] at hlt2
      have hj0 : (n : Int) - 1 - k = (j : Int) := by omega
      have hsa := fun c => step Aa na c la k (by omega) (l.getD k 0) _ (Ahead l (k + 1)) ahead_more _ hSa
      have hsb := fun w h c => step Ab nb c lb k (by omega) (l.getD j 0) _ (Behind l n (k + 1)) (by rw [hj]; exact behind_more) w h
      obtain ⟨x, hx⟩ : ∃ x, l.getD k 0 = x := ⟨_, rfl⟩
      obtain ⟨y, hy⟩ : ∃ y, l.getD j 0 = y := ⟨_, rfl⟩
      rw [hx] at cA hsa
      rw [hy] at hsb
      have i1 : (0 : Int) ≤ k := by omega
      have i2 : (k : Int) < n := by omega
      have i3 : (0 : Int) ≤ j := by omega
      have i4 : (j : Int) < n := by omega
      have w0 : IntKind.i64.wrap ((n : Int) - 1) = (n : Int) - 1 := IntWalk.i64_in _ (by omega)
      clear hj
      go_wp2_with fail
      refine (hsa _).mono ?_
      rintro en w2 ⟨A2, m2, c2, e2, rfl, hb2, hd⟩
      have hB2 := hB.trans (hb2.mono hB.size)
      have hSb2 := hSb.below hb2
      obtain ⟨ad', hA', hab', cB⟩ := reads_at hn (hR.below hB2) hlt2
      injection hA' with hA'
      subst hA'
      rw [hy] at cB
      clear hSb cA hsa hSa hb2
      rcases hd with ⟨d1, p2, hS2⟩ | ⟨d1, hS2⟩
      all_goals
        go_wp2_with fail
        refine (hsb _ hSb2 _).mono ?_
        rintro en w3 ⟨A3, m3, c3, e3, rfl, hb3, hd3⟩
        have hB3 := hB2.trans (hb3.mono hB2.size)
        have hS3 := hS2.below hb3
        clear hS2 cB hsb hSb2 hb3
        rcases hd3 with ⟨d3, p3, hT3⟩ | ⟨d3, hT3⟩
        all_goals
          go_wp2
          go_roundw
          case rel => exact ⟨k + 1, _, _, _, _, _, _, _, _, by omega, rfl, rfl, by go_num, hB3, hS3, hT3⟩
          case measure => simp [intOf]; omega
    · obtain rfl : k = n := by omega
      go_wp2
      go_loopw [11] (fun i wr => ∃ (j : Nat), j ≤ k ∧ i = .int .i64 j ∧ Below w.heap.size w wr ∧ St (Ahead l k) k wr Aa na la ∧ St (Behind l k k) k wr Ab nb lb) (fun i _ => k - (intOf i).toNat)
      case atStart => exact ⟨0, by omega, rfl, hB, hSa, hSb⟩
      case round =>
        obtain ⟨j, hj, rfl, hB, hSa, hSb⟩ := hrel
        by_cases hlt : j < k
        · obtain ⟨ad, hA, hab, cA⟩ := reads_at hn (hR.below hB) hlt
          subst hA
          have hS : Ahead l k (l.getD j 0) := ⟨j, hlt, rfl⟩
          obtain ⟨x, hx⟩ : ∃ x, l.getD j 0 = x := ⟨_, rfl⟩
          have hsa := fun c => has_step Aa na c la k (by omega) x _ _ hSa (hx ▸ hS)
          rw [hx] at cA
          have i1 : (0 : Int) ≤ j := by omega
          have i2 : (j : Int) < k := by omega
          clear hS
          go_wp2_with fail
          refine (hsa _).mono ?_
          rintro en w2 ⟨b, e, rfl, hb2, hd⟩
          have hB2 := hB.trans (hb2.mono hB.size)
          have hS2 := hSa.below hb2
          have hT2 := hSb.below hb2
          obtain ⟨ad', hA', hab', cB⟩ := reads_at hn (hR.below hB2) hlt
          injection hA' with hA'
          subst hA'
          rw [hx] at cB
          clear hsa hSa hSb cA
          rcases hd with ⟨rfl, d1, d2, d3⟩ | ⟨rfl, d1 | ⟨d1, d2⟩⟩
          all_goals
            go_wp2
            go_roundw
            case rel => exact ⟨j + 1, by omega, by go_num, hB2, hS2, hT2⟩
            case measure => simp [intOf]; omega
        · obtain ⟨_, h2, hR2, hG⟩ := hSa
          obtain ⟨_, h3, hR3, hG2⟩ := hSb
          obtain rfl : la = lb := got_eq hG hG2 ends
          obtain rfl : na = nb := h2.symm.trans h3
          have hc := hG.1
          have d1 : decide ((j : Int) < k) = false := by simp; omega
          have hm2 : na ≤ 100 := by omega
          clear hG hG2
          go_wp2_with fail
          refine (same_yes Aa Ab na ca cb _ _ la h2 (by omega) _ hR2 hR3).mono ?_
          rintro en w2 ⟨rfl, m, rfl⟩
          go_wp2_with fail
          refine (check_any Aa na ca _ la h2 _ (hR2.drewN _)).mono ?_
          rintro en w3 ⟨rfl, rfl⟩
          rw [hc]
          clear hR2 hR3 h2 h3 hc
          go_wp2
          go_ret
          exact ⟨rfl, below_drewN hB _⟩
theorem walk (A : Option Addr) (n c : Nat) (l : List Int) (hn : l.length = n) (w : World) (hR : Reads w w.heap.size 1 A n (ints l)) :
    Calls Try.prog 7 #[.slice A n c] w fun en w' => en = .returned (.bool true) ∧ Below w.heap.size w w' := by
  rcases Nat.lt_or_ge 100 n with h | h
  · exact many A n c l (decide_eq_true (by omega)) w
  · exact few A n c l hn h (decide_eq_false (by omega)) w hR
end Go.Proofs.Ytocnmdnicoahnaa.SeenOrder
