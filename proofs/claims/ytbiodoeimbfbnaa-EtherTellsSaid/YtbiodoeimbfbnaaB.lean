/- Ether: what compares copies, and a clone of bytes. -/
import Derived.Test.YtbiodoeimbfbnaaA
import Derived.Laws.IdiomStrings
import Derived.Lib.BufferRead
import Derived.Laws.Strings
import Derived.WalkSpells
namespace Go.Proofs.Ytbiodoeimbfbnaa
open Go.ChangeShapes Go.WideShapes Go.ChangeAt Go.RowKit
set_option linter.unusedSimpArgs false
set_option linter.unusedVariables false
theorem infoU8 : (Try.prog.info? 5).map (fun i => (i.zero, i.size, i.bytes)) = some (some (.int .u8 0), 1, 1) := by kernel_rfl
/-- The string of bytes. -/
def strN (l : List Nat) : ByteArray := ⟨(l.map fun b => UInt8.ofNat b).toArray⟩
theorem conv_str {w : World} {B n c : Nat} {A : Option Addr} {l : List Nat} (hn : l.length = n) (hl : ∀ b ∈ l, b < 256) (h : Reads w B 1 A n (ints .u8 l)) :
    (convert 23 9 (.slice A n c)).run Try.prog w = .ok (.string (strN l)) w := by
  subst hn
  rcases A with _ | ad
  · have h0 : l.length = 0 := by
      rcases Nat.eq_zero_or_pos l.length with h0 | h0
      · exact h0
      · obtain ⟨ad, e, _⟩ := h.2 h0; cases e
    have hn : l = [] := List.eq_nil_of_length_eq_zero h0
    subst hn
    exact Lib.run_convert_nil_bytes w 23 9 5 c Try.underlying23 Try.underlying5 Try.underlying9
  · have hc : ∀ j u, (ints .u8 l)[j]? = some u → w.cell? (ad.add j) = some u := by
      intro j u hu
      rcases Nat.eq_zero_or_pos l.length with h0 | h0
      · have hn : l = [] := List.eq_nil_of_length_eq_zero h0
        subst hn
        simp at hu
      · obtain ⟨ad', e, _, hc⟩ := h.2 h0
        injection e with e
        subst e
        exact hc j u hu
    have := run_convert_bytes_back (P := Try.prog) w 23 9 5 ad c (l.map fun b => UInt8.ofNat b) Try.underlying23 Try.underlying5 Try.underlying9 (fun j hj => by
      have hj' : j < l.length := by simpa using hj
      have hb := hl l[j] (List.getElem_mem hj')
      rw [hc j (.int .u8 (l[j] : Nat)) (by simp [ints, List.getElem?_eq_getElem hj'])]
      simp [UInt8.toNat_ofNat', Nat.mod_eq_of_lt hb])
    simpa [strN] using this
theorem str_same (l : List Nat) : ((strN l).toList == (strN l).toList) = true := by simp
theorem strN_list (k : List Nat) : (strN k).toList = k.map UInt8.ofNat := by simp [strN]
theorem map_inj8 {a b : List Nat} (ha : ∀ x ∈ a, x < 256) (hb : ∀ x ∈ b, x < 256) (h : a.map UInt8.ofNat = b.map UInt8.ofNat) : a = b := by
  have hm : ∀ l : List Nat, (∀ x ∈ l, x < 256) → (l.map UInt8.ofNat).map UInt8.toNat = l := by
    intro l hl
    rw [List.map_map]
    conv => rhs; rw [← List.map_id l]
    apply List.map_congr_left
    intro x hx
    simp [UInt8.toNat_ofNat', Nat.mod_eq_of_lt (hl x hx)]
  rw [← hm a ha, ← hm b hb, h]
theorem str_other {a b : List Nat} (ha : ∀ x ∈ a, x < 256) (hb : ∀ x ∈ b, x < 256) (h : a ≠ b) : ((strN a).toList == (strN b).toList) = false := by
  rw [beq_eq_false_iff_ne]
  intro e
  rw [strN_list, strN_list] at e
  exact h (map_inj8 ha hb e)
def ClPost (w : World) (n : Nat) (a : List Nat) (en : Ending) (w' : World) : Prop := ∃ Ao co, en = .returned (.slice Ao n co) ∧ n ≤ co ∧ OwnR w' w.heap.size 5 Ao n (ints .u8 a) ∧ Below w.heap.size w w'
set_option maxHeartbeats 2000000 in
theorem clone_any (A : Option Addr) (n c : Nat) (a : List Nat) (hn : a.length = n) (hm : n ≤ 100000) (w : World) (hR : Reads w w.heap.size 1 A n (ints .u8 a)) :
    Calls Try.prog 25 #[.slice A n c] w (ClPost w n a) := by
  rcases A with _ | ad
  · have h0 : n = 0 := by
      rcases Nat.eq_zero_or_pos n with h | h
      · exact h
      · obtain ⟨ad, h1, _⟩ := hR.2 h
        cases h1
    subst h0
    have ha : a = [] := List.eq_nil_of_length_eq_zero hn
    subst ha
    have q22 : ∀ (w : World), (binOp .eql 23 (.slice none 0 c) (.slice none 0 0)).run Try.prog w = .ok (.bool true) w := fun w => Lib.run_eql_slice_nil w _ _ none 0 c 0 0 Try.underlying23
    clear hn hR
    go_enter Try.func25, Try.ntmps25
    go_wp2
    go_ret
    exact ⟨none, 0, rfl, Nat.le_refl _, OwnR.none_, Below.refl _ _⟩
  · obtain ⟨i0, hi0, hz0, hz1, hz2⟩ := info_parts infoU8
    clear hn
    have q22 : ∀ (w : World), (binOp .eql 23 (.slice (some ad) n c) (.slice none 0 0)).run Try.prog w = .ok (.bool false) w := fun w => Lib.run_eql_slice_nil w _ _ (some ad) n c 0 0 Try.underlying23
    go_enter Try.func25, Try.ntmps25
    go_wp2_with (at_builtin; refine wpList_append_any _ rfl (.tmp 5) (.tmp 6) 23 rfl w.heap.size 5 i0 _ 1 1 Try.underlying23 hi0 hz0 hz1 hz2 rfl (by omega) (.slice (some ⟨w.heap.size, 0, none⟩) 0 0) 0 [] rfl (owns_new w w.heap.size (Nat.le_refl _) [] 5 0 rfl (Nat.zero_le _)) w.heap.size (some ad) n c (ints .u8 a) rfl (hR.alloc (Nat.le_refl _) _) (ints_one _ _) (by unfold maxLen; omega) (by omega) (by rw [World.size_alloc]; omega) ?_; intro v4 w4 ho4 hg4 _; rw [Nat.zero_add, List.nil_append] at ho4; obtain ⟨Ao, co, rfl, hco, ro⟩ := own_slice ho4)
    go_ret
    refine ⟨Ao, co, rfl, hco, OwnR.of_row ho4, Below.grown ((Below.refl w.heap.size w).alloc (Nat.le_refl _) _) hg4 (by rw [World.size_alloc]; omega) ?_⟩
    intro q hq
    simp [Value.ownBlock] at hq
    omega
set_option maxHeartbeats 4000000 in
theorem equal_any (A A2 : Option Addr) (n n2 c c2 B B2 : Nat) (a b : List Nat) (hn : a.length = n) (hn2 : b.length = n2) (hm : n ≤ 100000) (hm2 : n2 ≤ 100000) (w : World) (hR : Reads w B 1 A n (ints .u8 a)) (hR2 : Reads w B2 1 A2 n2 (ints .u8 b)) :
    Calls Try.prog 33 #[.slice A n c, .slice A2 n2 c2] w fun en w' => en = .returned (.bool (decide (a = b))) ∧ ∃ m, w' = w.drewN m := by
  by_cases hlen : n = n2
  · subst hlen
    have no : ∀ k, k < n → a.getD k 0 ≠ b.getD k 0 → decide (a = b) = false := fun k _ h => decide_eq_false (fun e => h (by rw [e]))
    have yes : (∀ k, k < n → a.getD k 0 = b.getD k 0) → decide (a = b) = true := fun h => decide_eq_true (by
      apply List.ext_getElem (by omega)
      intro i h1 h2
      have := h i (by omega)
      rw [List.getD_eq_getElem?_getD, List.getD_eq_getElem?_getD, List.getElem?_eq_getElem h1, List.getElem?_eq_getElem h2] at this
      exact this)
    obtain ⟨R, hRr⟩ : ∃ R, decide (a = b) = R := ⟨_, rfl⟩
    rw [hRr] at no yes ⊢
    have gno := Lib.hid no
    have gyes := Lib.hid yes
    have gn := Lib.hid hn
    have gn2 := Lib.hid hn2
    have t1 : ((n : Int) != n) = false := by simp
    clear no yes hRr hn hn2
    go_enter Try.func33, Try.ntmps33
    go_wp2
    go_loopw [13] (fun t wr => ∃ k m : Nat, k ≤ n ∧ t = .int .i64 (k : Int) ∧ Hid (∀ j, j < k → a.getD j 0 = b.getD j 0) ∧ wr = w.drewN m) (fun t _ => n - (intOf t).toNat)
    case atStart => exact ⟨0, 0, Nat.zero_le _, rfl, Lib.hid (fun j h1 => by omega), rfl⟩
    case round =>
      obtain ⟨k, m, hk, rfl, h0, rfl⟩ := hrel
      by_cases hlt : k < n
      · obtain ⟨ad, rfl, hab, cA⟩ := at_ints gn.out hR hlt
        obtain ⟨ad2, rfl, hab2, cA2⟩ := at_ints gn2.out hR2 hlt
        have i1 : (0 : Int) ≤ k := by omega
        have i2 : (k : Int) < n := by omega
        obtain ⟨x, hx⟩ : ∃ x, a.getD k 0 = x := ⟨_, rfl⟩
        obtain ⟨y, hy⟩ : ∃ y, b.getD k 0 = y := ⟨_, rfl⟩
        rw [hx] at cA
        rw [hy] at cA2
        by_cases h : x = y
        · subst h
          have h0' : Hid (∀ i, i < k + 1 → a.getD i 0 = b.getD i 0) := Lib.hid (fun i h1 => by
            rcases Nat.lt_or_ge i k with h3 | h3
            · exact h0.out i h3
            · rw [show i = k by omega, hx, hy])
          have t2 : ((x : Int) != x) = false := by simp
          clear hx hy hR hR2 gno gyes h0 gn gn2
          go_wp2_with fail
          go_quiet (fail)
          go_wp2
          go_roundw
          case rel => exact ⟨k + 1, _, by omega, by go_num, h0', rfl⟩
          case measure => simp [intOf] <;> omega
        · obtain rfl := gno.out k hlt (by rw [hx, hy]; exact h)
          have t2 : ((x : Int) != y) = true := by simp; omega
          have t4 : (x != y) = true := by simp; omega
          clear hx hy hR hR2 gyes h0 gn gn2 gno
          go_wp2_with fail
          go_quiet (fail)
          go_wp2
          go_ret
          refine ⟨rfl, ?_⟩
          simp only [World.drewN_drewN]
          exact ⟨_, rfl⟩
      · obtain rfl : k = n := by omega
        obtain rfl := gyes.out h0.out
        clear hR hR2 gno gyes h0 gn gn2
        go_wp2
        go_ret
        exact ⟨rfl, m, rfl⟩
  · rw [decide_eq_false (show ¬ a = b from fun e => hlen (by rw [← hn, ← hn2, e]))]
    have t1 : ((n : Int) != n2) = true := by simp; omega
    have t2 : (n != n2) = true := by simpa using hlen
    clear hR hR2 hn hn2
    go_enter Try.func33, Try.ntmps33
    go_wp2
    go_ret
    exact ⟨rfl, 0, rfl⟩
set_option maxHeartbeats 4000000 in
theorem alike_any (num dn num2 dn2 : Int) (X X2 : Option Addr) (n d n2 d2 : Nat) (txt txt2 : List Nat) (sp sp2 : Bool) (hn : txt.length = n) (hn2 : txt2.length = n2) (hm : n ≤ 100000) (hm2 : n2 ≤ 100000) (R : Bool) (hR : decide ((⟨num, dn, txt, sp⟩ : Cp) = ⟨num2, dn2, txt2, sp2⟩) = R) (w : World) (r1 : Reads w w.heap.size 1 X n (ints .u8 txt)) (r2 : Reads w w.heap.size 1 X2 n2 (ints .u8 txt2)) :
    Calls Try.prog 31 #[.agg #[.int .i64 num, .int .i64 dn, .slice X n d, .bool sp], .agg #[.int .i64 num2, .int .i64 dn2, .slice X2 n2 d2, .bool sp2]] w fun en w' => en = .returned (.bool R) ∧ Below w.heap.size w w' := by
  have hB := ((Below.refl w.heap.size w).alloc (Nat.le_refl _) (.cells #[.int .i64 num, .int .i64 dn, .slice X n d, .bool sp] 25)).alloc (by simp) (.cells #[.int .i64 num2, .int .i64 dn2, .slice X2 n2 d2, .bool sp2] 25)
  have s1 := (r1.alloc (Nat.le_refl _) (.cells #[.int .i64 num, .int .i64 dn, .slice X n d, .bool sp] 25)).alloc (by simp) (.cells #[.int .i64 num2, .int .i64 dn2, .slice X2 n2 d2, .bool sp2] 25)
  have s2 := (r2.alloc (Nat.le_refl _) (.cells #[.int .i64 num, .int .i64 dn, .slice X n d, .bool sp] 25)).alloc (by simp) (.cells #[.int .i64 num2, .int .i64 dn2, .slice X2 n2 d2, .bool sp2] 25)
  have he := equal_any X X2 n n2 d d2 _ _ txt txt2 hn hn2 hm hm2 _ s1 s2
  by_cases e1 : num = num2
  rotate_left
  · obtain rfl : false = R := by rw [← hR]; exact (decide_eq_false (fun e => e1 (by injection e))).symm
    have t1 : (num == num2) = false := beq_eq_false_iff_ne.2 e1
    clear e1 hR hn hn2 s1 s2 r1 r2 he
    go_enter Try.func31, Try.ntmps31
    go_wp2
    go_ret
    exact ⟨rfl, hB⟩
  subst e1
  by_cases e2 : dn = dn2
  rotate_left
  · obtain rfl : false = R := by rw [← hR]; exact (decide_eq_false (fun e => e2 (by injection e))).symm
    have t1 : (dn == dn2) = false := beq_eq_false_iff_ne.2 e2
    clear e2 hR hn hn2 s1 s2 r1 r2 he
    go_enter Try.func31, Try.ntmps31
    go_wp2
    go_ret
    exact ⟨rfl, hB⟩
  subst e2
  by_cases e3 : txt = txt2
  rotate_left
  · obtain rfl : false = R := by rw [← hR]; exact (decide_eq_false (fun e => e3 (by injection e))).symm
    rw [decide_eq_false e3] at he
    clear e3 hR hn hn2 s1 s2 r1 r2
    go_enter Try.func31, Try.ntmps31
    go_wp2_with (go_at_call 33; (with_reducible refine he.mono ?_); rintro e w1 ⟨rfl, q, rfl⟩)
    go_ret
    exact ⟨rfl, below_drewN hB q⟩
  subst e3
  obtain rfl : n = n2 := by omega
  rw [decide_eq_true rfl] at he
  by_cases e4 : sp = sp2
  rotate_left
  · obtain rfl : false = R := by rw [← hR]; exact (decide_eq_false (fun e => e4 (by injection e))).symm
    have t2 : (sp == sp2) = false := beq_eq_false_iff_ne.2 e4
    clear e4 hR hn hn2 s1 s2 r1 r2
    go_enter Try.func31, Try.ntmps31
    go_wp2_with (go_at_call 33; (with_reducible refine he.mono ?_); rintro e w1 ⟨rfl, q, rfl⟩)
    go_ret
    exact ⟨rfl, below_drewN hB q⟩
  subst e4
  obtain rfl : true = R := by rw [← hR]; exact (decide_eq_true rfl).symm
  clear hR hn hn2 s1 s2 r1 r2
  go_enter Try.func31, Try.ntmps31
  go_wp2_with (go_at_call 33; (with_reducible refine he.mono ?_); rintro e w1 ⟨rfl, q, rfl⟩)
  go_ret
  exact ⟨rfl, below_drewN hB q⟩
set_option maxHeartbeats 4000000 in
theorem sameOne_any (num dn num2 dn2 : Int) (X X2 : Option Addr) (n d n2 d2 : Nat) (txt txt2 : List Nat) (sp sp2 : Bool) (hn : txt.length = n) (hn2 : txt2.length = n2) (hm : n ≤ 100000) (hm2 : n2 ≤ 100000) (ha : ∀ x ∈ txt, x < 256) (hb : ∀ x ∈ txt2, x < 256) (R : Bool) (hR : decide ((⟨num, dn, txt, sp⟩ : Cp) = ⟨num2, dn2, txt2, sp2⟩) = R) (w : World) (r1 : Reads w w.heap.size 1 X n (ints .u8 txt)) (r2 : Reads w w.heap.size 1 X2 n2 (ints .u8 txt2)) :
    Calls Try.prog 16 #[.agg #[.int .i64 num, .int .i64 dn, .slice X n d, .bool sp], .agg #[.int .i64 num2, .int .i64 dn2, .slice X2 n2 d2, .bool sp2]] w fun en w' => en = .returned (.bool R) ∧ Below w.heap.size w w' := by
  have hB := ((Below.refl w.heap.size w).alloc (Nat.le_refl _) (.cells #[.int .i64 num, .int .i64 dn, .slice X n d, .bool sp] 25)).alloc (by simp) (.cells #[.int .i64 num2, .int .i64 dn2, .slice X2 n2 d2, .bool sp2] 25)
  have s1 := (r1.alloc (Nat.le_refl _) (.cells #[.int .i64 num, .int .i64 dn, .slice X n d, .bool sp] 25)).alloc (by simp) (.cells #[.int .i64 num2, .int .i64 dn2, .slice X2 n2 d2, .bool sp2] 25)
  have s2 := (r2.alloc (Nat.le_refl _) (.cells #[.int .i64 num, .int .i64 dn, .slice X n d, .bool sp] 25)).alloc (by simp) (.cells #[.int .i64 num2, .int .i64 dn2, .slice X2 n2 d2, .bool sp2] 25)
  have k1 := conv_str (c := d) hn ha s1
  have k2 := conv_str (c := d2) hn2 hb s2
  by_cases e1 : num = num2
  rotate_left
  · obtain rfl : false = R := by rw [← hR]; exact (decide_eq_false (fun e => e1 (by injection e))).symm
    have t1 : (num == num2) = false := beq_eq_false_iff_ne.2 e1
    clear e1 hR hn hn2 s1 s2 r1 r2 k1 k2 ha hb
    go_enter Try.func16, Try.ntmps16
    go_wp2
    go_ret
    exact ⟨rfl, hB⟩
  subst e1
  by_cases e2 : dn = dn2
  rotate_left
  · obtain rfl : false = R := by rw [← hR]; exact (decide_eq_false (fun e => e2 (by injection e))).symm
    have t1 : (dn == dn2) = false := beq_eq_false_iff_ne.2 e2
    clear e2 hR hn hn2 s1 s2 r1 r2 k1 k2 ha hb
    go_enter Try.func16, Try.ntmps16
    go_wp2
    go_ret
    exact ⟨rfl, hB⟩
  subst e2
  by_cases e3 : txt = txt2
  rotate_left
  · obtain rfl : false = R := by rw [← hR]; exact (decide_eq_false (fun e => e3 (by injection e))).symm
    have t1 := str_other ha hb e3
    clear e3 hR hn hn2 s1 s2 r1 r2 ha hb
    go_enter Try.func16, Try.ntmps16
    go_wp2
    go_ret
    exact ⟨rfl, hB⟩
  subst e3
  obtain rfl : n = n2 := by omega
  have t1 := str_same txt
  by_cases e4 : sp = sp2
  rotate_left
  · obtain rfl : false = R := by rw [← hR]; exact (decide_eq_false (fun e => e4 (by injection e))).symm
    have t2 : (sp == sp2) = false := beq_eq_false_iff_ne.2 e4
    clear e4 hR hn hn2 s1 s2 r1 r2 ha hb
    go_enter Try.func16, Try.ntmps16
    go_wp2
    go_ret
    exact ⟨rfl, hB⟩
  subst e4
  obtain rfl : true = R := by rw [← hR]; exact (decide_eq_true rfl).symm
  clear hR hn hn2 s1 s2 r1 r2 ha hb
  go_enter Try.func16, Try.ntmps16
  go_wp2
  go_ret
  exact ⟨rfl, hB⟩
end Go.Proofs.Ytbiodoeimbfbnaa
