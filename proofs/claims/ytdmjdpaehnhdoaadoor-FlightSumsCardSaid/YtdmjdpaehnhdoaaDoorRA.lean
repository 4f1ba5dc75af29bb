/- Door: the reference's bits -/
import Derived.Test.YtdmjdpaehnhdoaaDoorDL
import Derived.Test.YtdmjdpaehnhdoaaDoorKA
import Derived.Laws.MakeOwn
namespace Go.Proofs.YtdmjdpaehnhdoaaDoor
open Go.ChangeShapes Go.WideShapes Go.ChangeAt Go.RowKit
set_option linter.unusedSimpArgs false
set_option linter.unusedVariables false
set_option maxRecDepth 100000
set_option maxHeartbeats 1000000 in
theorem bit_at (A : Option Addr) (n c B k : Nat) (l : List Nat) (hn : l.length = n) (hm : n ≤ 100000) (hk : k ≤ 100000) (w : World) (hR : Reads w B 1 A n (ints .u8 l)) :
    Calls Tryd.prog 120 #[.slice A n c, .int .i64 (k : Int)] w fun en w' => en = .returned (.int .u8 ((l.getD k 0 : Nat) : Int)) ∧ w = w' := by
  by_cases hlt : k < n
  · obtain ⟨ad, rfl, hb, cA⟩ := at_ints hn hR hlt
    obtain ⟨x, hx⟩ : ∃ x, l.getD k 0 = x := ⟨_, rfl⟩
    rw [hx] at cA ⊢
    have d1 : decide (k < n) = true := decide_eq_true hlt
    have i1 : (0 : Int) ≤ k := by omega
    have i2 : (k : Int) < n := by omega
    clear hR hn hx
    go_enter Tryd.func120, Tryd.ntmps120
    go_wp2
    go_ret
    exact ⟨rfl, rfl⟩
  · have d1 : decide (k < n) = false := decide_eq_false hlt
    have e : l.getD k 0 = 0 := by rw [List.getD_eq_getElem?_getD, List.getElem?_eq_none (by omega)]; rfl
    rw [e]
    clear hR hn e
    go_enter Tryd.func120, Tryd.ntmps120
    go_wp2
    go_ret
    exact ⟨rfl, rfl⟩
set_option maxHeartbeats 2000000 in
theorem rcut_any (A : Option Addr) (n c B : Nat) (l : List Nat) (hn : l.length = n) (hm : n ≤ 100000) (hnc : n ≤ c) (hl : ∀ x ∈ l, x < 2) (w : World) (hR : Reads w B 1 A n (ints .u8 l)) (m : Nat) (hL : (dig 2 (val 2 l)).length = m) :
    Calls Tryd.prog 108 #[.slice A n c] w fun en w' => en = .returned (.slice A m c) ∧ w = w' := by
  have fin : ∀ k, k ≤ n → (∀ j, k ≤ j → j < n → l.getD j 0 = 0) → (k = 0 ∨ l.getD (k - 1) 0 ≠ 0) → k = m := by
    intro k hk h0 h1
    have := cut_eq (B := 2) (by omega) hl (m := k) (by omega) (fun j h2 h3 => h0 j h2 (by omega)) h1
    rw [← hL, ← this, List.length_take]
    omega
  have gn := Lib.hid hn
  have gfin := Lib.hid fin
  have gl := Lib.hid hl
  clear hn fin hl hL
  go_enter Tryd.func108, Tryd.ntmps108
  go_wp2
  go_loop [3] (fun t => ∃ k : Nat, k ≤ n ∧ t = .int .i64 k ∧ Hid (∀ j, k ≤ j → j < n → l.getD j 0 = 0)) (fun t => (intOf t).toNat)
  case atStart => exact ⟨n, Nat.le_refl _, rfl, Lib.hid (fun j h1 h2 => by omega)⟩
  case round =>
    obtain ⟨k, hk, rfl, h0⟩ := hrel
    rcases Nat.eq_zero_or_pos k with rfl | hp
    · have hm0 := gfin.out 0 (Nat.zero_le _) h0.out (Or.inl rfl)
      subst hm0
      have i1 : (0 : Int) ≤ (c : Int) := by omega
      clear gfin gl gn h0
      go_wp2
      go_ret
      exact ⟨by simp, rfl⟩
    · obtain ⟨j, rfl⟩ : ∃ j, k = j + 1 := ⟨k - 1, by omega⟩
      obtain ⟨ad, rfl, hb, cA⟩ := at_ints gn.out hR (show j < n by omega)
      have d1 : decide ((0 : Int) < ((j + 1 : Nat) : Int)) = true := decide_eq_true (by omega)
      have d2 : decide (0 < j + 1) = true := decide_eq_true (by omega)
      have j0 : (0 : Int) ≤ (j : Int) := by omega
      have j1 : (j : Int) < n := by omega
      have j2 : (j : Int) + 1 - 1 = j := by omega
      have j3 : (0 : Int) < (j : Int) + 1 := by omega
      have jc : (j : Int) + 1 ≤ c := by omega
      have jc0 : (0 : Int) ≤ (j : Int) + 1 := by omega
      have jn : ((j : Int) + 1).toNat = j + 1 := by omega
      obtain ⟨x, hx⟩ : ∃ x, l.getD j 0 = x := ⟨_, rfl⟩
      rw [hx] at cA
      by_cases hz : x = 0
      · subst hz
        have h0' : Hid (∀ i, j ≤ i → i < n → l.getD i 0 = 0) := Lib.hid (fun i h1 h2 => by
          rcases Nat.eq_or_lt_of_le h1 with rfl | h3
          · exact hx
          · exact h0.out i (by omega) h2)
        clear hx hR gfin gl gn h0
        go_wp2
        go_round
        case rel => exact ⟨j, by omega, by first | rfl | go_num, h0'⟩
        case measure => simp [intOf] <;> omega
      · have d3 : ((x : Int) == 0) = false := by simp; omega
        have d4 : (x == 0) = false := by simpa using hz
        have hmj := gfin.out (j + 1) hk h0.out (Or.inr (by rw [Nat.add_sub_cancel, hx]; exact hz))
        subst hmj
        clear hx hR gfin gl gn h0
        go_wp2
        go_ret
        exact ⟨by simp, rfl⟩
set_option maxHeartbeats 4000000 in
theorem rorder_any (A A2 : Option Addr) (n n2 c c2 B B2 : Nat) (a b : List Nat) (hn : a.length = n) (hn2 : b.length = n2) (hm : n ≤ 90000) (hm2 : n2 ≤ 90000) (ha : ∀ x ∈ a, x < 2) (hb : ∀ x ∈ b, x < 2) (w : World) (hR : Reads w B 1 A n (ints .u8 a)) (hR2 : Reads w B2 1 A2 n2 (ints .u8 b)) :
    Calls Tryd.prog 111 #[.slice A n c, .slice A2 n2 c2] w fun en w' => en = .returned (.int .i64 (cmpI (val 2 a) (val 2 b))) ∧ w = w' := by
  obtain ⟨N, hN⟩ : ∃ N, max n n2 = N := ⟨_, rfl⟩
  obtain ⟨R, hRr⟩ : ∃ R, cmpI (val 2 a) (val 2 b) = R := ⟨_, rfl⟩
  rw [hRr]
  have pa := pre_all 2 a N (by omega)
  have pb := pre_all 2 b N (by omega)
  have lt1 : ∀ k, k < N → (∀ j, k + 1 ≤ j → j < N → a.getD j 0 = b.getD j 0) → a.getD k 0 < b.getD k 0 → R = -1 := fun k hk h0 h => by
    have := cmp_top (B := 2) (by omega) ha hb hk (fun i h1 h2 => h0 i (by omega) h2) h
    rw [← hRr]; unfold cmpI; rw [if_pos (by omega)]
  have gt1 : ∀ k, k < N → (∀ j, k + 1 ≤ j → j < N → a.getD j 0 = b.getD j 0) → b.getD k 0 < a.getD k 0 → R = 1 := fun k hk h0 h => by
    have := cmp_top (B := 2) (by omega) hb ha hk (fun i h1 h2 => (h0 i (by omega) h2).symm) h
    rw [← hRr]; unfold cmpI; rw [if_neg (by omega), if_pos (by omega)]
  have eq1 : (∀ j, 0 ≤ j → j < N → a.getD j 0 = b.getD j 0) → R = 0 := fun h => by
    have := pre_eq (B := 2) (n := N) (fun i hi => h i (by omega) hi)
    rw [← hRr]; unfold cmpI; rw [if_neg (by omega), if_neg (by omega)]
  have g1 := Lib.hid lt1
  have g2 := Lib.hid gt1
  have g3 := Lib.hid eq1
  have hba := fun (k : Nat) (h : k ≤ 100000) (w : World) (hR : Reads w B 1 A n (ints .u8 a)) => bit_at A n c B k a hn (by omega) h w hR
  have hbb := fun (k : Nat) (h : k ≤ 100000) (w : World) (hR : Reads w B2 1 A2 n2 (ints .u8 b)) => bit_at A2 n2 c2 B2 k b hn2 (by omega) h w hR
  have hN2 : N ≤ 100000 := by omega
  have hmx : (if n < n2 then (n2 : Int) else (n : Int)) = (N : Int) := by split <;> omega
  have hmx2 : max (n : Int) (n2 : Int) = (N : Int) := by omega
  have gN := Lib.hid hN
  clear lt1 gt1 eq1 pa pb hRr hn hn2 hN
  go_enter Tryd.func111, Tryd.ntmps111
  go_wp2
  go_loop [5] (fun t => ∃ k : Nat, k ≤ N ∧ t = .int .i64 ((k : Int) - 1) ∧ Hid (∀ j, k ≤ j → j < N → a.getD j 0 = b.getD j 0)) (fun t => (intOf t + 1).toNat)
  case atStart => exact ⟨N, Nat.le_refl _, rfl, Lib.hid (fun j h1 h2 => by omega)⟩
  case round =>
    obtain ⟨k, hk, rfl, h0⟩ := hrel
    rcases Nat.eq_zero_or_pos k with rfl | hp
    · obtain rfl := g3.out h0.out
      clear hR hR2 g1 g2 g3 h0 hba hbb ha hb
      go_wp2
      go_ret
      exact ⟨rfl, rfl⟩
    · obtain ⟨j, rfl⟩ : ∃ j, k = j + 1 := ⟨k - 1, by omega⟩
      have ca := hba j (by omega) w hR
      have cb := hbb j (by omega) w hR2
      have j2 : ((j + 1 : Nat) : Int) - 1 = j := by omega
      have i1 : (0 : Int) ≤ j := by omega
      obtain ⟨x, hx⟩ : ∃ x, a.getD j 0 = x := ⟨_, rfl⟩
      obtain ⟨y, hy⟩ : ∃ y, b.getD j 0 = y := ⟨_, rfl⟩
      rw [hx] at ca
      rw [hy] at cb
      rw [j2]
      rcases Nat.lt_trichotomy x y with h | h | h
      · obtain rfl := g1.out j (by omega) h0.out (by rw [hx, hy]; exact h)
        have t2 : ((x : Int) != y) = true := by simp; omega
        have t3 : decide ((x : Int) < y) = true := decide_eq_true (by omega)
        have t4 : (x != y) = true := by simp; omega
        have t5 : decide (x < y) = true := decide_eq_true h
        clear hx hy hR hR2 g1 g2 g3 h0 j2 hba hbb ha hb
        go_wp2_with (first | (go_at_call 120; (with_reducible refine ca.mono ?_); rintro e w' ⟨rfl, rfl⟩) | (go_at_call 120; (with_reducible refine cb.mono ?_); rintro e w' ⟨rfl, rfl⟩))
        go_ret
        exact ⟨rfl, rfl⟩
      · subst h
        have h0' : Hid (∀ i, j ≤ i → i < N → a.getD i 0 = b.getD i 0) := Lib.hid (fun i h1 h2 => by
          rcases Nat.eq_or_lt_of_le h1 with rfl | h3
          · rw [hx, hy]
          · exact h0.out i (by omega) h2)
        have t2 : ((x : Int) != x) = false := by simp
        clear hx hy hR hR2 g1 g2 g3 h0 j2 hba hbb ha hb
        go_wp2_with (first | (go_at_call 120; (with_reducible refine ca.mono ?_); rintro e w' ⟨rfl, rfl⟩) | (go_at_call 120; (with_reducible refine cb.mono ?_); rintro e w' ⟨rfl, rfl⟩))
        go_round
        case rel => exact ⟨j, by omega, by first | rfl | go_num, h0'⟩
        case measure => simp [intOf] <;> omega
      · obtain rfl := g2.out j (by omega) h0.out (by rw [hx, hy]; exact h)
        have t2 : ((x : Int) != y) = true := by simp; omega
        have t3 : decide ((x : Int) < y) = false := decide_eq_false (by omega)
        have t4 : (x != y) = true := by simp; omega
        have t5 : decide (x < y) = false := decide_eq_false (by omega)
        clear hx hy hR hR2 g1 g2 g3 h0 j2 hba hbb ha hb
        go_wp2_with (first | (go_at_call 120; (with_reducible refine ca.mono ?_); rintro e w' ⟨rfl, rfl⟩) | (go_at_call 120; (with_reducible refine cb.mono ?_); rintro e w' ⟨rfl, rfl⟩))
        go_ret
        exact ⟨rfl, rfl⟩
theorem infoU8 : (Tryd.prog.info? 5).map (fun i => (i.zero, i.size, i.bytes)) = some (some (.int .u8 0), 1, 1) := by kernel_rfl
theorem one_int (k : IntKind) (z : Int) : ∀ u ∈ [Value.int k z], u.oneCell' = true := by
  intro u hu
  simp at hu
  subst hu
  rfl
theorem ints_push (k : IntKind) (L : List Nat) {z : Int} (h : 0 ≤ z) : ints k L ++ [.int k z] = ints k (L ++ [z.toNat]) := by
  simp [ints, Int.toNat_of_nonneg h]
/-- Bits that are answered: the one list of a number. -/
def BPost (w : World) (m N : Nat) (en : Ending) (w' : World) : Prop :=
  ∃ A c, en = .returned (.slice A m c) ∧ m ≤ c ∧ Reads w' w'.heap.size 1 A m (ints .u8 (dig 2 N)) ∧ Below w.heap.size w w'
theorem dig_take {B : Nat} (hB : 2 ≤ B) {L : List Nat} (hl : ∀ x ∈ L, x < B) {N m : Nat} (hv : val B L = N) (hm : (dig B N).length = m) : L.take m = dig B N ∧ m ≤ L.length := by
  have hle : (dig B N).length ≤ L.length := dig_len_le hB (by rw [← hv]; exact val_lt hl)
  have hN : val B (dig B N ++ List.replicate (L.length - m) 0) = N := by
    rw [val_app, val_dig hB, val_zero (l := List.replicate _ _) (fun x hx => (List.mem_replicate.1 hx).2), Nat.mul_zero, Nat.add_zero]
  have uniq : ∀ {a b : List Nat}, a.length = b.length → (∀ x ∈ a, x < B) → (∀ x ∈ b, x < B) → val B a = val B b → a = b := by
    intro a
    induction a with
    | nil => intro b h _ _ _; exact (List.eq_nil_of_length_eq_zero h.symm).symm
    | cons x r ih =>
      intro b h h1 h2 h3
      cases b with
      | nil => simp at h
      | cons y s =>
        rw [val_cons, val_cons] at h3
        have hx := h1 x (List.mem_cons_self ..)
        have hy := h2 y (List.mem_cons_self ..)
        have e : x = y := by
          have := congrArg (· % B) h3
          simp only [Nat.add_mul_mod_self_left, Nat.mod_eq_of_lt hx, Nat.mod_eq_of_lt hy] at this
          exact this
        subst e
        have : val B r = val B s := Nat.eq_of_mul_eq_mul_left (show 0 < B by omega) (by omega)
        rw [ih (by simpa using h) (fun z hz => h1 z (List.mem_cons_of_mem _ hz)) (fun z hz => h2 z (List.mem_cons_of_mem _ hz)) this]
  have : L = dig B N ++ List.replicate (L.length - m) 0 := by
    apply uniq
    · simp; omega
    · exact hl
    · intro x hx
      rcases List.mem_append.1 hx with h | h
      · exact dig_lt hB N x h
      · rw [(List.mem_replicate.1 h).2]; omega
    · rw [hN, hv]
  refine ⟨?_, by omega⟩
  conv => lhs; rw [this]
  rw [List.take_append_of_le_length (by omega), List.take_of_length_le (by omega)]
theorem plus_step {V P k a b c : Nat} (h : V + 2 ^ k * c = P) : V + 2 ^ k * ((a + b + c) % 2) + 2 ^ (k + 1) * ((a + b + c) / 2) = P + 2 ^ k * a + 2 ^ k * b := by
  have e : (a + b + c) % 2 + 2 * ((a + b + c) / 2) = a + b + c := Nat.mod_add_div _ 2
  have : 2 ^ k * ((a + b + c) % 2) + 2 ^ (k + 1) * ((a + b + c) / 2) = 2 ^ k * (a + b + c) := by
    rw [Nat.pow_succ, Nat.mul_assoc, ← Nat.mul_add, e]
  rw [Nat.mul_add, Nat.mul_add] at this
  omega
set_option maxHeartbeats 4000000 in
theorem plus_any (A A2 : Option Addr) (n n2 c c2 : Nat) (a b : List Nat) (hn : a.length = n) (hn2 : b.length = n2) (hm : n ≤ 20000) (hm2 : n2 ≤ 20000) (ha : ∀ x ∈ a, x < 2) (hb : ∀ x ∈ b, x < 2) (m : Nat) (hL : (dig 2 (val 2 a + val 2 b)).length = m) (w : World) (hR : Reads w w.heap.size 1 A n (ints .u8 a)) (hR2 : Reads w w.heap.size 1 A2 n2 (ints .u8 b)) :
    Calls Tryd.prog 110 #[.slice A n c, .slice A2 n2 c2] w (BPost w m (val 2 a + val 2 b)) := by
  obtain ⟨i0, hi0, hz0, hz1, hz2⟩ := info_parts infoU8
  obtain ⟨N, hN⟩ : ∃ N, max n n2 = N := ⟨_, rfl⟩
  have pa := pre_all 2 a N (by omega)
  have pb := pre_all 2 b N (by omega)
  have pa2 := pre_all 2 a (N + 1) (by omega)
  have pb2 := pre_all 2 b (N + 1) (by omega)
  have la := pre_lt (B := 2) (by omega) ha N
  have lb := pre_lt (B := 2) (by omega) hb N
  have hba := fun (k : Nat) (h : k ≤ 100000) (w : World) (hR : Reads w w.heap.size 1 A n (ints .u8 a)) => bit_at A n c w.heap.size k a hn (by omega) h w hR
  have hbb := fun (k : Nat) (h : k ≤ 100000) (w : World) (hR : Reads w w.heap.size 1 A2 n2 (ints .u8 b)) => bit_at A2 n2 c2 w.heap.size k b hn2 (by omega) h w hR
  have hN2 : N ≤ 20000 := by omega
  have hmx : (if n < n2 then (n2 : Int) else (n : Int)) = (N : Int) := by split <;> omega
  have hmx2 : max (n : Int) (n2 : Int) = (N : Int) := by omega
  have gN := Lib.hid hN
  have gx := Lib.hid hmx
  clear hn hn2 hN
  go_enter Tryd.func110, Tryd.ntmps110
  go_wp2
  go_loopw [5, 6, 7] (fun o cy i wr => ∃ (k q : Nat) (L : List Nat) (Ao : Option Addr) (co : Nat), k ≤ N + 1 ∧ i = .int .i64 (k : Int) ∧ cy = .int .u8 (q : Int) ∧ q ≤ 1 ∧ o = .slice Ao k co ∧ Hid (L.length = k) ∧ (∀ x ∈ L, x < 2) ∧ Hid (val 2 L + 2 ^ k * q = pre 2 a k + pre 2 b k) ∧ wr.ownsRow w.heap.size 5 1 (.slice Ao k co) k (ints .u8 L) ∧ Below w.heap.size w wr) (fun _ _ i _ => N + 1 - (intOf i).toNat)
  case atStart => exact ⟨0, 0, [], none, 0, Nat.zero_le _, rfl, rfl, by omega, rfl, Lib.hid rfl, by simp, Lib.hid rfl, World.ownsRow_nil _ _ _ _, Below.refl _ _⟩
  case round =>
    obtain ⟨k, q, L, Ao, co, hk, rfl, rfl, hq, rfl, hLl, hLb, hv, hown, hB⟩ := hrel
    have hz := hB.size
    by_cases hlt : k ≤ N
    · have ca := hba k (by omega) wr ((hR.below hB).more hz)
      have cb := hbb k (by omega) wr ((hR2.below hB).more hz)
      have xa := getD_lt (B := 2) (by omega) ha k
      have xb := getD_lt (B := 2) (by omega) hb k
      have va := pre_succ 2 a k
      have vb := pre_succ 2 b k
      obtain ⟨x, hx⟩ : ∃ x, a.getD k 0 = x := ⟨_, rfl⟩
      obtain ⟨y, hy⟩ : ∃ y, b.getD k 0 = y := ⟨_, rfl⟩
      rw [hx] at ca va xa
      rw [hy] at cb vb xb
      have hv' : Hid (val 2 (L ++ [(x + y + q) % 2]) + 2 ^ (k + 1) * ((x + y + q) / 2) = pre 2 a (k + 1) + pre 2 b (k + 1)) := Lib.hid (by
        have := plus_step (a := x) (b := y) hv.out
        rw [val_snoc, hLl.out]
        omega)
      have t1 : decide (k ≤ N) = true := decide_eq_true hlt
      have t2 : decide ((k : Int) ≤ N) = true := decide_eq_true (by omega)
      have hLb' : ∀ z ∈ L ++ [(x + y + q) % 2], z < 2 := by
        intro z hz
        rcases List.mem_append.1 hz with h | h
        · exact hLb z h
        · simp at h; omega
      have hLl' : Hid ((L ++ [(x + y + q) % 2]).length = k + 1) := Lib.hid (by simp; exact hLl.out)
      have hmx := gx.out
      clear hba hbb hR hR2 hx hy va vb hv hLl hLb ha hb pa pb pa2 pb2 la lb
      go_wp2_with (first
        | (go_at_call 120; (with_reducible refine ca.mono ?_); rintro e w' ⟨rfl, rfl⟩)
        | (go_at_call 120; (with_reducible refine cb.mono ?_); rintro e w' ⟨rfl, rfl⟩)
        | (at_builtin; refine wpList_push rfl (.tmp 27) (.tmp 30) 116 rfl w.heap.size 5 i0 _ 1 1 Tryd.underlying116 hi0 hz0 hz1 hz2 rfl (by omega) hB (Nat.le_refl _) (.slice Ao k co) k (ints .u8 L) rfl hown [.int .u8 _] rfl (one_int _ _) rfl (by unfold maxLen; omega) (by omega) ?_; intro v4 w4 ho4 hb4; rw [ints_push _ _ (by omega)] at ho4; obtain ⟨A4, c4, rfl, _, _⟩ := own_slice ho4))
      rw [show ((x : Int) + y + q) % 2 = (((x + y + q) % 2 : Nat) : Int) by omega, Int.toNat_natCast] at ho4
      go_roundw
      case rel => exact ⟨k + 1, (x + y + q) / 2, L ++ [(x + y + q) % 2], A4, c4, by omega, by go_num, by first | rfl | go_num | (congr 1; omega), by omega, rfl, hLl', hLb', hv', ho4, hb4⟩
      case measure => simp [intOf] <;> omega
    · obtain rfl : k = N + 1 := by omega
      have hv2 := hv.out
      rw [pa2, pb2] at hv2
      have h2 : 2 ^ (N + 1) = 2 ^ N + 2 ^ N := by rw [Nat.pow_succ]; omega
      have q0 : q = 0 := by
        rcases Nat.eq_zero_or_pos q with h | h
        · exact h
        · have : q = 1 := by omega
          subst this
          rw [pa] at la
          rw [pb] at lb
          omega
      subst q0
      rw [Nat.mul_zero, Nat.add_zero] at hv2
      obtain ⟨ht, hmk⟩ := dig_take (B := 2) (by omega) hLb hv2 hL
      rw [hLl.out] at hmk
      have hRo := Reads.of_own hown
      have hcap : N + 1 ≤ co := by
        rcases hown.2 with ⟨_, h⟩ | ⟨_, _, _, h, _, _, h3, _⟩
        · omega
        · injection h with _ _ h; omega
      have hcut := rcut_any Ao (N + 1) co wr.heap.size L hLl.out (by omega) hcap hLb wr hRo m (by rw [hv2]; exact hL)
      have hres := reads_take hLl.out hRo hmk
      rw [ht] at hres
      have t1 : decide (N + 1 ≤ N) = false := decide_eq_false (by omega)
      have t2 : decide (((N + 1 : Nat) : Int) ≤ N) = false := decide_eq_false (by omega)
      have t3 : decide ((N : Int) + 1 ≤ N) = false := decide_eq_false (by omega)
      have hmx := gx.out
      clear hba hbb hR hR2 hv hv2 hLl hLb ha hb pa pb pa2 pb2 la lb ht hown hRo h2 gx gN hL
      go_wp2_with (go_at_call 108; refine hcut.mono ?_; rintro e w' ⟨rfl, rfl⟩)
      go_ret
      exact ⟨Ao, co, rfl, by omega, hres, hB⟩
theorem minus_step {V P Q k x y q d : Nat} (hx : x < 2) (hy : y < 2) (hq : q ≤ 1) (hd : d = x + 2 - y - q) (h : P + 2 ^ k * q = V + Q) : P + 2 ^ k * x + 2 ^ (k + 1) * (1 - d / 2) = V + 2 ^ k * (d % 2) + (Q + 2 ^ k * y) := by
  have e : x + 2 * (1 - d / 2) = d % 2 + y + q := by omega
  have e2 : 2 ^ k * x + 2 ^ (k + 1) * (1 - d / 2) = 2 ^ k * (d % 2) + 2 ^ k * y + 2 ^ k * q := by
    rw [Nat.pow_succ, Nat.mul_assoc, ← Nat.mul_add, e, Nat.mul_add, Nat.mul_add]
  omega
set_option maxHeartbeats 4000000 in
theorem minus_any (A A2 : Option Addr) (n n2 c c2 : Nat) (a b : List Nat) (hn : a.length = n) (hn2 : b.length = n2) (hm : n ≤ 20000) (hle : n2 ≤ n) (ha : ∀ x ∈ a, x < 2) (hb : ∀ x ∈ b, x < 2) (hba : val 2 b ≤ val 2 a) (m : Nat) (hL : (dig 2 (val 2 a - val 2 b)).length = m) (w : World) (hR : Reads w w.heap.size 1 A n (ints .u8 a)) (hR2 : Reads w w.heap.size 1 A2 n2 (ints .u8 b)) :
    Calls Tryd.prog 112 #[.slice A n c, .slice A2 n2 c2] w (BPost w m (val 2 a - val 2 b)) := by
  obtain ⟨i0, hi0, hz0, hz1, hz2⟩ := info_parts infoU8
  have pa := pre_all 2 a n (by omega)
  have pb := pre_all 2 b n (by omega)
  have hca := fun (k : Nat) (h : k ≤ 100000) (w : World) (hR : Reads w w.heap.size 1 A n (ints .u8 a)) => bit_at A n c w.heap.size k a hn (by omega) h w hR
  have hcb := fun (k : Nat) (h : k ≤ 100000) (w : World) (hR : Reads w w.heap.size 1 A2 n2 (ints .u8 b)) => bit_at A2 n2 c2 w.heap.size k b hn2 (by omega) h w hR
  have gn := Lib.hid hn
  clear hn hn2
  go_enter Tryd.func112, Tryd.ntmps112
  go_wp2
  go_loopw [5, 6, 7] (fun o cy i wr => ∃ (k q : Nat) (L : List Nat) (Ao : Option Addr) (co : Nat), k ≤ n ∧ i = .int .i64 (k : Int) ∧ cy = .int .u8 (q : Int) ∧ q ≤ 1 ∧ o = .slice Ao k co ∧ Hid (L.length = k) ∧ (∀ x ∈ L, x < 2) ∧ Hid (pre 2 a k + 2 ^ k * q = val 2 L + pre 2 b k) ∧ wr.ownsRow w.heap.size 5 1 (.slice Ao k co) k (ints .u8 L) ∧ Below w.heap.size w wr) (fun _ _ i _ => n - (intOf i).toNat)
  case atStart => exact ⟨0, 0, [], none, 0, Nat.zero_le _, rfl, rfl, by omega, rfl, Lib.hid rfl, by simp, Lib.hid rfl, World.ownsRow_nil _ _ _ _, Below.refl _ _⟩
  case round =>
    obtain ⟨k, q, L, Ao, co, hk, rfl, rfl, hq, rfl, hLl, hLb, hv, hown, hB⟩ := hrel
    have hz := hB.size
    by_cases hlt : k < n
    · have ca := hca k (by omega) wr ((hR.below hB).more hz)
      have cb := hcb k (by omega) wr ((hR2.below hB).more hz)
      have xa := getD_lt (B := 2) (by omega) ha k
      have xb := getD_lt (B := 2) (by omega) hb k
      have va := pre_succ 2 a k
      have vb := pre_succ 2 b k
      obtain ⟨x, hx⟩ : ∃ x, a.getD k 0 = x := ⟨_, rfl⟩
      obtain ⟨y, hy⟩ : ∃ y, b.getD k 0 = y := ⟨_, rfl⟩
      rw [hx] at ca va xa
      rw [hy] at cb vb xb
      obtain ⟨d, hd⟩ : ∃ d, d = x + 2 - y - q := ⟨_, rfl⟩
      have hd3 : d ≤ 3 := by omega
      have hv' : Hid (pre 2 a (k + 1) + 2 ^ (k + 1) * (1 - d / 2) = val 2 (L ++ [d % 2]) + pre 2 b (k + 1)) := Lib.hid (by
        have := minus_step xa xb hq hd hv.out
        rw [val_snoc, hLl.out, va, vb]
        omega)
      have hLb' : ∀ z ∈ L ++ [d % 2], z < 2 := by
        intro z hz
        rcases List.mem_append.1 hz with h | h
        · exact hLb z h
        · simp at h; omega
      have hLl' : Hid ((L ++ [d % 2]).length = k + 1) := Lib.hid (by simp; exact hLl.out)
      have hdI : (x : Int) + 2 - y - q = (d : Int) := by omega
      have gd := Lib.hid hd
      clear hca hcb hR hR2 hx hy va vb hv hLl hLb ha hb pa pb hd
      go_wp2_with (first
        | (go_at_call 120; (with_reducible refine ca.mono ?_); rintro e w' ⟨rfl, rfl⟩)
        | (go_at_call 120; (with_reducible refine cb.mono ?_); rintro e w' ⟨rfl, rfl⟩)
        | (at_builtin; refine wpList_push rfl (.tmp 25) (.tmp 28) 116 rfl w.heap.size 5 i0 _ 1 1 Tryd.underlying116 hi0 hz0 hz1 hz2 rfl (by omega) hB (Nat.le_refl _) (.slice Ao k co) k (ints .u8 L) rfl hown [.int .u8 _] rfl (one_int _ _) rfl (by unfold maxLen; omega) (by omega) ?_; intro v4 w4 ho4 hb4; rw [ints_push _ _ (by omega)] at ho4; obtain ⟨A4, c4, rfl, _, _⟩ := own_slice ho4))
      rw [show (d : Int) % 2 = ((d % 2 : Nat) : Int) by omega, Int.toNat_natCast] at ho4
      go_roundw
      case rel => exact ⟨k + 1, 1 - d / 2, L ++ [d % 2], A4, c4, by omega, by go_num, by first | rfl | go_num | (congr 1; omega), by omega, rfl, hLl', hLb', hv', ho4, hb4⟩
      case measure => simp [intOf] <;> omega
    · obtain rfl : k = n := by omega
      have hv2 := hv.out
      rw [pa, pb] at hv2
      have hVL := val_lt hLb
      rw [hLl.out] at hVL
      have q0 : q = 0 := by
        rcases Nat.eq_zero_or_pos q with h | h
        · exact h
        · have : q = 1 := by omega
          subst this
          omega
      subst q0
      have hv3 : val 2 L = val 2 a - val 2 b := by omega
      obtain ⟨ht, hmk⟩ := dig_take (B := 2) (by omega) hLb hv3 hL
      rw [hLl.out] at hmk
      have hRo := Reads.of_own hown
      have hcap : k ≤ co := by
        rcases hown.2 with ⟨_, h⟩ | ⟨_, _, _, h, _, _, h3, _⟩
        · omega
        · injection h with _ _ h; omega
      have hcut := rcut_any Ao k co wr.heap.size L hLl.out (by omega) hcap hLb wr hRo m (by rw [hv3]; exact hL)
      have hres := reads_take hLl.out hRo hmk
      rw [ht] at hres
      clear hca hcb hR hR2 hv hv2 hv3 hVL hLl hLb ha hb pa pb ht hown hRo gn hL hba
      go_wp2_with (go_at_call 108; refine hcut.mono ?_; rintro e w' ⟨rfl, rfl⟩)
      go_ret
      exact ⟨Ao, co, rfl, by omega, hres, hB⟩
theorem dig_step {V P s n : Nat} (h : V + 2 ^ s * n = P) : V + 2 ^ s * (n % 2) + 2 ^ (s + 1) * (n / 2) = P := by
  have : 2 ^ s * (n % 2) + 2 ^ (s + 1) * (n / 2) = 2 ^ s * n := by
    rw [Nat.pow_succ, Nat.mul_assoc, ← Nat.mul_add, Nat.mod_add_div]
  omega
set_option maxHeartbeats 4000000 in
theorem digits_any (A : Option Addr) (n c : Nat) (a : List Nat) (hn : a.length = n) (hm : n ≤ 500) (ha : ∀ x ∈ a, x < 4294967296) (m : Nat) (hL : (dig 2 (val 4294967296 a)).length = m) (w : World) (hR : Reads w w.heap.size 1 A n (ints .u32 a)) :
    Calls Tryd.prog 114 #[.slice A n c] w (BPost w m (val 4294967296 a)) := by
  obtain ⟨i0, hi0, hz0, hz1, hz2⟩ := info_parts infoU8
  have pa := pre_all 4294967296 a n (by omega)
  have gn := Lib.hid hn
  have gL := Lib.hid hL
  clear hn hL
  go_enter Tryd.func114, Tryd.ntmps114
  go_wp2
  go_loopw [3, 4] (fun o i wr => ∃ (k r : Nat) (L : List Nat) (Ao : Option Addr) (co : Nat), k ≤ n ∧ i = .int .i64 (k : Int) ∧ r = 32 * k ∧ o = .slice Ao r co ∧ Hid (L.length = r) ∧ (∀ x ∈ L, x < 2) ∧ Hid (val 2 L = pre 4294967296 a k) ∧ wr.ownsRow w.heap.size 5 1 (.slice Ao r co) r (ints .u8 L) ∧ Below w.heap.size w wr) (fun _ i _ => n - (intOf i).toNat)
  case atStart => exact ⟨0, 0, [], none, 0, Nat.zero_le _, rfl, rfl, rfl, Lib.hid rfl, by simp, Lib.hid rfl, World.ownsRow_nil _ _ _ _, Below.refl _ _⟩
  case round =>
    obtain ⟨k, r, L, Ao, co, hk, rfl, hr, rfl, hLl, hLb, hv, hown, hB⟩ := hrel
    have hz := hB.size
    by_cases hlt : k < n
    · obtain ⟨ad, rfl, hab, cA⟩ := at_ints gn.out (hR.below hB) hlt
      have xa := getD_lt (B := 4294967296) (by omega) ha k
      have va := pre_succ 4294967296 a k
      have i1 : (0 : Int) ≤ k := by omega
      have i2 : (k : Int) < n := by omega
      obtain ⟨x, hx⟩ : ∃ x, a.getD k 0 = x := ⟨_, rfl⟩
      rw [hx] at cA va xa
      have hv1 : Hid (val 2 L + 2 ^ r * x = pre 4294967296 a (k + 1)) := Lib.hid (by rw [va, hv.out, pow32, hr])
      have gr := Lib.hid hr
      have hr2 : r ≤ 16000 := by omega
      clear hx va hv hR pa hr
      go_wp2
      obtain ⟨wo, rfl⟩ : ∃ wo : World, wo = wr := ⟨_, rfl⟩
      go_loopw [3, 5, 6] (fun o t i wr => ∃ (j s y : Nat) (L : List Nat) (Ao : Option Addr) (co : Nat), j ≤ 32 ∧ i = .int .i64 (j : Int) ∧ t = .int .u32 (y : Int) ∧ Hid (y < 2 ^ (32 - j)) ∧ y < 4294967296 ∧ Hid (s = r + j) ∧ s ≤ 17000 ∧ o = .slice Ao s co ∧ Hid (L.length = s) ∧ (∀ x ∈ L, x < 2) ∧ Hid (val 2 L + 2 ^ s * y = pre 4294967296 a (k + 1)) ∧ wr.ownsRow w.heap.size 5 1 (.slice Ao s co) s (ints .u8 L) ∧ Below w.heap.size w wr) (fun _ _ i _ => 32 - (intOf i).toNat)
      case atStart => exact ⟨0, r, x, L, Ao, co, by omega, rfl, rfl, Lib.hid (by simpa using xa), xa, Lib.hid rfl, by omega, rfl, hLl, hLb, hv1, hown, hB⟩
      case round =>
        clear hLl hLb hv1 hown hB hz cA
        obtain ⟨j, s, y, L, Ao, co, hj, rfl, rfl, hy, hy2, hs, hs2, rfl, hLl, hLb, hv, hown, hB⟩ := hrel
        have hz := hB.size
        by_cases hj32 : j < 32
        · have hv' : Hid (val 2 (L ++ [y % 2]) + 2 ^ (s + 1) * (y / 2) = pre 4294967296 a (k + 1)) := Lib.hid (by
            have := dig_step hv.out
            rw [val_snoc, hLl.out]
            omega)
          have hLb' : ∀ z ∈ L ++ [y % 2], z < 2 := by
            intro z hz
            rcases List.mem_append.1 hz with h | h
            · exact hLb z h
            · simp at h; omega
          have hLl' : Hid ((L ++ [y % 2]).length = s + 1) := Lib.hid (by simp; exact hLl.out)
          have hy' : Hid (y / 2 < 2 ^ (32 - (j + 1))) := Lib.hid (by
            have := hy.out
            rw [show 32 - j = (32 - (j + 1)) + 1 by omega, Nat.pow_succ] at this
            omega)
          have hs' : Hid (s + 1 = r + (j + 1)) := Lib.hid (by have := hs.out; omega)
          have hs3 : s + 1 ≤ 17000 := by have := hs.out; omega
          clear hv hLl hLb ha hy hs
          go_wp2_with (at_builtin; refine wpList_push rfl (.tmp 21) (.tmp 25) 116 rfl w.heap.size 5 i0 _ 1 1 Tryd.underlying116 hi0 hz0 hz1 hz2 rfl (by omega) hB (Nat.le_refl _) (.slice Ao s co) s (ints .u8 L) rfl hown [.int .u8 _] rfl (one_int _ _) rfl (by unfold maxLen; omega) (by omega) ?_; intro v4 w4 ho4 hb4; rw [ints_push _ _ (by omega)] at ho4; obtain ⟨A4, c4, rfl, _, _⟩ := own_slice ho4)
          rw [show (y : Int) % 2 = ((y % 2 : Nat) : Int) by omega, Int.toNat_natCast] at ho4
          go_roundw
          case rel => exact ⟨j + 1, s + 1, y / 2, L ++ [y % 2], A4, c4, by omega, by go_num, by first | rfl | go_num | (congr 1; omega), hy', by omega, hs', hs3, rfl, hLl', hLb', hv', ho4, hb4⟩
          case measure => simp [intOf] <;> omega
        · obtain rfl : j = 32 := by omega
          have y0 : y = 0 := by have := hy.out; simp at this; exact this
          subst y0
          have hv' : Hid (val 2 L = pre 4294967296 a (k + 1)) := Lib.hid (by have := hv.out; omega)
          have hs' : s = 32 * (k + 1) := by rw [hs.out, gr.out]; omega
          have gs := Lib.hid hs'
          clear hv hs' ha hs hy
          go_wp2
          go_roundw
          case rel => exact ⟨k + 1, s, L, Ao, co, by omega, by go_num, gs.out, rfl, hLl, hLb, hv', hown, hB⟩
          case measure => simp [intOf] <;> omega
    · obtain rfl : k = n := by omega
      have hv2 := hv.out
      rw [pa] at hv2
      obtain ⟨ht, hmk⟩ := dig_take (B := 2) (by omega) hLb hv2 gL.out
      rw [hLl.out] at hmk
      have hRo := Reads.of_own hown
      have hcap : r ≤ co := by
        rcases hown.2 with ⟨h1, h⟩ | ⟨_, _, _, h, _, _, h3, _⟩
        · omega
        · injection h with _ _ h; omega
      have hcut := rcut_any Ao r co wr.heap.size L hLl.out (by omega) hcap hLb wr hRo m (by rw [hv2]; exact gL.out)
      have hres := reads_take hLl.out hRo hmk
      rw [ht] at hres
      have hmc : m ≤ co := by omega
      clear hR hv hv2 hLl hLb ha pa ht hown hRo gn gL hr hmk
      go_wp2_with (go_at_call 108; refine hcut.mono ?_; rintro e w' ⟨rfl, rfl⟩)
      go_ret
      exact ⟨Ao, co, rfl, hmc, hres, hB⟩
/-- Limbs that are answered, to be read: the one list of a number. -/
def LRead (w : World) (m N : Nat) (en : Ending) (w' : World) : Prop :=
  ∃ A c, en = .returned (.slice A m c) ∧ m ≤ c ∧ Reads w' w'.heap.size 1 A m (ints .u32 (dig 4294967296 N)) ∧ Below w.heap.size w w'
theorem own_cap {w : World} {base n c : Nat} {e : TypeId} {A : Option Addr} {xs : List Value} (h : w.ownsRow base e 1 (.slice A n c) n xs) : n ≤ c := by
  rcases h.2 with ⟨_, h⟩ | ⟨_, _, _, h, _, _, h3, _⟩
  · omega
  · injection h with _ _ h; omega
theorem horner {P T k x n : Nat} (h : T = P + 2 ^ k * x + 2 ^ (k + 1) * n) : T = P + 2 ^ k * (2 * n + x) := by
  rw [Nat.pow_succ, Nat.mul_assoc] at h
  rw [Nat.mul_add]
  omega
theorem pre_stop {B : Nat} {l : List Nat} {k : Nat} (h : l.length ≤ k) : pre B l k = pre B l l.length := by
  rw [pre_all B l k h, pre_all B l l.length (Nat.le_refl _)]
set_option maxHeartbeats 8000000 in
theorem limbs_any (A : Option Addr) (n c : Nat) (a : List Nat) (hn : a.length = n) (hm : n ≤ 20000) (hnc : n ≤ c) (ha : ∀ x ∈ a, x < 2) (m : Nat) (hL : (dig 4294967296 (val 2 a)).length = m) (w : World) (hR : Reads w w.heap.size 1 A n (ints .u8 a)) :
    Calls Tryd.prog 109 #[.slice A n c] w (LRead w m (val 2 a)) := by
  obtain ⟨i0, hi0, hz0, hz1, hz2⟩ := info_parts infoU32
  obtain ⟨d, hd⟩ : ∃ d, (dig 2 (val 2 a)).length = d := ⟨_, rfl⟩
  obtain ⟨ht, hdn⟩ := dig_take (B := 2) (by omega) ha rfl hd
  rw [hn] at hdn
  have hcut := rcut_any A n c w.heap.size a hn (by omega) hnc ha w hR d hd
  have hR2 := reads_take hn hR hdn
  rw [ht] at hR2
  obtain ⟨V, hV⟩ : ∃ V, val 2 a = V := ⟨_, rfl⟩
  rw [hV] at hL hd hR2 ⊢
  obtain ⟨b, hb⟩ : ∃ b, dig 2 V = b := ⟨_, rfl⟩
  have hbl : ∀ x ∈ b, x < 2 := by rw [← hb]; exact dig_lt (by omega) V
  have hbc : Canon b := by rw [← hb]; exact dig_canon (by omega) V
  have hbv : val 2 b = V := by rw [← hb]; exact val_dig (by omega) V
  rw [hb] at hd hR2
  have hdn2 : d ≤ 20000 := by omega
  have hdc : d ≤ c := by omega
  have pb := pre_all 2 b d (by omega)
  rw [hbv] at pb
  have gd := Lib.hid hd
  have gL := Lib.hid hL
  clear hR ha ht hV hb hn hd hL hdn
  go_enter Tryd.func109, Tryd.ntmps109
  go_wp2_with (go_at_call 108; refine hcut.mono ?_; rintro e w' ⟨rfl, rfl⟩)
  clear hcut
  go_loopw [3, 4] (fun o i wr => ∃ (k t : Nat) (L : List Nat) (Ao : Option Addr) (co : Nat), t = 32 * k ∧ t < d + 32 ∧ i = .int .i64 (t : Int) ∧ o = .slice Ao k co ∧ Hid (L.length = k) ∧ (∀ x ∈ L, x < 4294967296) ∧ Hid (val 4294967296 L = pre 2 b t) ∧ wr.ownsRow w.heap.size 71 1 (.slice Ao k co) k (ints .u32 L) ∧ Below w.heap.size w wr) (fun _ i _ => d + 32 - (intOf i).toNat)
  case atStart => exact ⟨0, 0, [], none, 0, rfl, by omega, rfl, rfl, Lib.hid rfl, by simp, Lib.hid rfl, World.ownsRow_nil _ _ _ _, Below.refl _ _⟩
  case round =>
    obtain ⟨k, t, L, Ao, co, ht, htd, rfl, rfl, hLl, hLb, hv, hown, hB⟩ := hrel
    have hz := hB.size
    have gt := Lib.hid ht
    have hk2 : k ≤ 20000 := by omega
    by_cases hlt : t < d
    · obtain ⟨T, hT⟩ : ∃ T, min d (t + 32) = T := ⟨_, rfl⟩
      have hTd : T ≤ d := by omega
      have hT32 : T ≤ t + 32 := by omega
      have hmin : (if (t : Int) + 32 < d then (t : Int) + 32 else (d : Int)) = (T : Int) := by split <;> omega
      have hmin2 : (if t + 32 < d then (t : Int) + 32 else (d : Int)) = (T : Int) := by split <;> omega
      have hmin3 : min (d : Int) ((t : Int) + 32) = (T : Int) := by omega
      have hmin4 : min ((t : Int) + 32) (d : Int) = (T : Int) := by omega
      have hTt : t ≤ T := by omega
      have hTv : Hid (pre 2 b T = pre 2 b (t + 32)) := Lib.hid (by
        rcases Nat.le_total (t + 32) d with h | h
        · rw [show T = t + 32 by omega]
        · rw [show T = d by omega, pre_stop (k := t + 32) (by rw [gd.out]; omega), gd.out])
      have hTw : Hid (T - t ≤ 32) := Lib.hid (by omega)
      clear ht hT
      go_wp2
      obtain ⟨wo, rfl⟩ : ∃ wo : World, wo = wr := ⟨_, rfl⟩
      have gm := Lib.hid hmin
      have gm2 := Lib.hid hmin2
      clear hmin hmin2 hmin3 hmin4
      go_loop [5, 6] (fun s i => ∃ (j y : Nat), t ≤ j ∧ j ≤ T ∧ i = .int .i64 ((j : Int) - 1) ∧ s = .int .u32 (y : Int) ∧ y < 4294967296 ∧ Hid (y < 2 ^ (T - j)) ∧ Hid (pre 2 b T = pre 2 b j + 2 ^ j * y)) (fun _ i => (intOf i + 1 - t).toNat)
      case atStart => exact ⟨T, 0, hTt, Nat.le_refl _, by first | rfl | (simp; done), rfl, by omega, Lib.hid (by simp), Lib.hid (by simp)⟩
      case round =>
        obtain ⟨j, y, htj, hjT, rfl, rfl, hy, hy2, hp⟩ := hrel
        rcases Nat.eq_or_lt_of_le htj with rfl | hlt2
        · have hyl := hy2.out
          have hp2 := hp.out
          have hv' : Hid (val 4294967296 (L ++ [y]) = pre 2 b (t + 32)) := Lib.hid (by
            rw [val_snoc, hLl.out, hv.out, pow32, ← gt.out, ← hTv.out, hp2])
          have hLb' : ∀ z ∈ L ++ [y], z < 4294967296 := by
            intro z hz
            rcases List.mem_append.1 hz with h | h
            · exact hLb z h
            · simp at h; omega
          have hLl' : Hid ((L ++ [y]).length = k + 1) := Lib.hid (by simp; exact hLl.out)
          have ht' : Hid (t + 32 = 32 * (k + 1)) := Lib.hid (by rw [gt.out]; omega)
          have t1 : decide ((t : Int) ≤ (t : Int) - 1) = false := decide_eq_false (by omega)
          clear hyl hp2 hp hy2 hTv hv hLl hLb pb hR2
          go_wp2_with (at_builtin; refine wpList_push rfl (.tmp 34) (.tmp 36) 23 rfl w.heap.size 71 i0 _ 1 4 Tryd.underlying23 hi0 hz0 hz1 hz2 rfl (by omega) hB (Nat.le_refl _) (.slice Ao k co) k (ints .u32 L) rfl hown [.int .u32 _] rfl (one_int _ _) rfl (by unfold maxLen; omega) (by omega) ?_; intro v4 w4 ho4 hb4; rw [ints_push _ _ (by omega)] at ho4; obtain ⟨A4, c4, rfl, _, _⟩ := own_slice ho4)
          rw [Int.toNat_natCast] at ho4
          go_roundw
          case rel => exact ⟨k + 1, t + 32, L ++ [y], A4, c4, ht'.out, by omega, by go_num, rfl, hLl', hLb', hv', ho4, hb4⟩
          case measure => simp [intOf] <;> omega
        · obtain ⟨i, rfl⟩ : ∃ i, j = i + 1 := ⟨j - 1, by omega⟩
          obtain ⟨ad, rfl, hab, cA⟩ := at_ints gd.out (hR2.below hB) (show i < d by omega)
          have xa := getD_lt (B := 2) (by omega) hbl i
          have va := pre_succ 2 b i
          obtain ⟨x, hx⟩ : ∃ x, b.getD i 0 = x := ⟨_, rfl⟩
          rw [hx] at cA va xa
          have j2 : ((i + 1 : Nat) : Int) - 1 = i := by omega
          have i1 : (0 : Int) ≤ i := by omega
          have i2 : (i : Int) < d := by omega
          have hpow : 2 * y + x < 2 ^ (T - i) := by
            have h := hy2.out
            rw [show T - i = (T - (i + 1)) + 1 by omega, Nat.pow_succ]
            omega
          have h32 : 2 ^ (T - i) ≤ 2 ^ 32 := Nat.pow_le_pow_right (by omega) (by have := hTw.out; omega)
          have hy' : 2 * y + x < 4294967296 := by
            have : (2 : Nat) ^ 32 = 4294967296 := by decide
            omega
          have gp := Lib.hid hpow
          have hp' : Hid (pre 2 b T = pre 2 b i + 2 ^ i * (2 * y + x)) := Lib.hid (horner (by rw [← va]; exact hp.out))
          have t1 : decide ((t : Int) ≤ (i : Int)) = true := decide_eq_true (by omega)
          have t2 : decide (t ≤ i) = true := decide_eq_true (by omega)
          rw [j2]
          clear hx va hp hpow h32 hy2 hR2 hv hLl hLb pb hown hB hTv j2
          go_wp2
          go_round
          case rel => exact ⟨i, 2 * y + x, by omega, by omega, by first | rfl | go_num, by first | rfl | go_num | (congr 1; omega), hy', gp, hp'⟩
          case measure => simp [intOf] <;> omega
    · have hv2 : val 4294967296 L = V := by rw [hv.out, pre_stop (by rw [gd.out]; omega), gd.out, pb]
      obtain ⟨hta, hmk⟩ := dig_take (B := 4294967296) (by omega) hLb hv2 gL.out
      rw [hLl.out] at hmk
      have hmk2 : k ≤ m := by
        rcases Nat.eq_zero_or_pos k with h | h
        · omega
        · have hd0 : 0 < d := by have := gt.out; omega
          have h1 := canon_ge (B := 2) (by omega) hbc (by rw [gd.out]; exact hd0)
          rw [gd.out, hbv] at h1
          have h2 : 4294967296 ^ (k - 1) ≤ V := by
            rw [pow32]
            refine Nat.le_trans (Nat.pow_le_pow_right (by omega) ?_) h1
            have := gt.out
            omega
          have := dig_len_gt (B := 4294967296) (by omega) h2
          rw [gL.out] at this
          omega
      obtain rfl : k = m := by omega
      have hLd : L = dig 4294967296 V := by rw [← hta, List.take_of_length_le (by rw [hLl.out]; exact Nat.le_refl _)]
      rw [hLd] at hown
      have hRo := Reads.of_own hown
      have hcap := own_cap hown
      clear hR2 hv hv2 hLl hLb pb hta hown hLd gt gL hmk hmk2 hbl hbc hbv
      go_wp2
      go_ret
      exact ⟨Ao, co, rfl, hcap, hRo, hB⟩
def Z8 (n : Nat) : Obj := .cells (ints .u8 (List.replicate n 0)).toArray 5
theorem made8 (n : Nat) : (Obj.cells (madeCells (Value.int .u8 0).cells n) 5) = Z8 n := by
  unfold Z8 madeCells
  congr 1
  apply Array.ext
  · simp
  · intro i h1 h2
    simp [Value.cells, Nat.mod_one]
theorem run_z8 (n : Nat) (hn : n ≤ 100000) (w : World) : (Instr.makeSlice 116 (.int .i64 (n : Int)) (.int .i64 (n : Int))).run Tryd.prog w = .ok (.slice (some ⟨w.heap.size, 0, none⟩) n n) (w.alloc (Z8 n)) := by
  obtain ⟨i0, hi0, hz0, hz1, hz2⟩ := info_parts infoU8
  have := run_make (P := Tryd.prog) w 116 5 i0 _ Tryd.underlying116 hi0 hz0 .i64 .i64 n n (by omega) (Int.le_refl _) (by rw [hz2]; omega) (by omega)
  rw [this, hz1, ← made8]
  simp
def t2 (a : List Nat) (k : Nat) : List Nat := if a.length = 0 then [] else List.replicate k 0 ++ a
theorem t2_val (a : List Nat) (k : Nat) : val 2 (t2 a k) = val 2 a * 2 ^ k := by
  unfold t2
  split
  · rename_i h
    rw [List.eq_nil_of_length_eq_zero h, val_nil, Nat.zero_mul]
  · rw [val_app, val_zero (l := List.replicate k 0) (fun x hx => (List.mem_replicate.1 hx).2), List.length_replicate, Nat.zero_add, Nat.mul_comm]
theorem t2_lt {a : List Nat} (ha : ∀ x ∈ a, x < 2) (k : Nat) : ∀ x ∈ t2 a k, x < 2 := by
  unfold t2
  split
  · intro x hx; cases hx
  · intro x hx
    rcases List.mem_append.1 hx with h | h
    · rw [(List.mem_replicate.1 h).2]; omega
    · exact ha x h
theorem t2_len (a : List Nat) (k : Nat) : (t2 a k).length ≤ k + a.length := by unfold t2; split <;> simp
set_option maxHeartbeats 4000000 in
theorem times2_any (A : Option Addr) (n c k : Nat) (a : List Nat) (hn : a.length = n) (hm : n ≤ 10000) (hk : k ≤ 10000) (m : Nat) (hL : (t2 a k).length = m) (w : World) (hR : Reads w w.heap.size 1 A n (ints .u8 a)) :
    Calls Tryd.prog 113 #[.slice A n c, .int .i64 (k : Int)] w fun en w' => ∃ Ao co, en = .returned (.slice Ao m co) ∧ m ≤ co ∧ Reads w' w'.heap.size 1 Ao m (ints .u8 (t2 a k)) ∧ Below w.heap.size w w' := by
  rcases Nat.eq_zero_or_pos n with h0 | h0
  · have e : t2 a k = [] := by unfold t2; rw [if_pos (by omega)]
    rw [e] at hL ⊢
    have hm0 : 0 = m := hL
    subst hm0 h0
    clear hR hL hn e
    go_enter Tryd.func113, Tryd.ntmps113
    go_wp2
    go_ret
    exact ⟨none, 0, rfl, Nat.le_refl _, Reads.none_, Below.refl _ _⟩
  · obtain ⟨i0, hi0, hz0, hz1, hz2⟩ := info_parts infoU8
    have e : t2 a k = List.replicate k 0 ++ a := by unfold t2; rw [if_neg (by omega)]
    have hm2 : k + n = m := by rw [← hL, e, List.length_append, List.length_replicate, hn]
    rw [e]
    subst hm2
    have hmk := run_z8 k (by omega)
    have hB0 := (Below.refl w.heap.size w).alloc (Nat.le_refl _) (Z8 k)
    have hO := owns_new w w.heap.size (Nat.le_refl _) (ints .u8 (List.replicate k 0)) 5 k (by simp) (by unfold maxLen; omega)
    obtain ⟨Z, hZ⟩ : ∃ Z, Z8 k = Z := ⟨_, rfl⟩
    have hZc : Obj.cells (ints .u8 (List.replicate k 0)).toArray 5 = Z := hZ
    rw [hZ] at hB0
    rw [hZc] at hO
    simp only [hZ] at hmk
    have hR1 := hR.alloc (Nat.le_refl _) Z
    have t1 : ((n : Int) == 0) = false := by (simp <;> omega)
    have t3 : (n == 0) = false := by (simp <;> omega)
    have hsz : w.heap.size ≤ (w.alloc Z).heap.size := by rw [World.size_alloc]; omega
    clear hn hL e hZ hZc hR
    go_enter Tryd.func113, Tryd.ntmps113
    go_wp2_with (at_builtin; refine wpList_append_any _ rfl (.tmp 9) (.tmp 10) 116 rfl w.heap.size 5 i0 _ 1 1 Tryd.underlying116 hi0 hz0 hz1 hz2 rfl (by omega) (.slice (some ⟨w.heap.size, 0, none⟩) k k) k (ints .u8 (List.replicate k 0)) rfl hO w.heap.size A n c (ints .u8 a) rfl hR1 (ints_one _ _) (by unfold maxLen; omega) (by omega) hsz ?_; intro v4 w4 ho4 hg4 _; obtain ⟨A4, c4, rfl, hc4, hr4⟩ := own_slice ho4)
    go_ret
    rw [ints_app] at hr4
    refine ⟨A4, c4, rfl, hc4, hr4, Below.grown hB0 hg4 hsz ?_⟩
    intro q hq
    exact own_base hO hq
end Go.Proofs.YtdmjdpaehnhdoaaDoor
