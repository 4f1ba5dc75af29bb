/- Numbers as lists of digits to a base, the lowest first: their values, the one list without a 0 at its end, sums and differences digit by digit. Plain: no program. -/
namespace Go.Proofs.Ytdmjdpaehnhdoaa
set_option linter.unusedVariables false
/-- The value of digits. -/
def val (B : Nat) : List Nat → Nat
  | [] => 0
  | x :: r => x + B * val B r
theorem val_nil (B : Nat) : val B [] = 0 := rfl
theorem val_cons (B x : Nat) (r : List Nat) : val B (x :: r) = x + B * val B r := rfl
theorem val_app (B : Nat) : ∀ xs ys : List Nat, val B (xs ++ ys) = val B xs + B ^ xs.length * val B ys
  | [], ys => by simp [val]
  | x :: r, ys => by
    rw [List.cons_append, val_cons, val_cons, val_app B r ys, List.length_cons, Nat.pow_succ, Nat.mul_add, Nat.mul_comm (B ^ r.length) B, Nat.mul_assoc]
    omega
theorem val_snoc (B : Nat) (xs : List Nat) (y : Nat) : val B (xs ++ [y]) = val B xs + B ^ xs.length * y := by
  rw [val_app, val_cons, val_nil, Nat.mul_zero, Nat.add_zero]
theorem val_lt {B : Nat} : ∀ {l : List Nat}, (∀ x ∈ l, x < B) → val B l < B ^ l.length
  | [], _ => by simp [val]
  | x :: r, h => by
    have hx := h x (List.mem_cons_self ..)
    have hr := val_lt (l := r) (fun y hy => h y (List.mem_cons_of_mem _ hy))
    rw [val_cons, List.length_cons, Nat.pow_succ]
    have : B * (val B r + 1) ≤ B * B ^ r.length := Nat.mul_le_mul_left B hr
    rw [Nat.mul_add, Nat.mul_one] at this
    rw [Nat.mul_comm (B ^ r.length) B]
    omega
theorem val_zero {B : Nat} : ∀ {l : List Nat}, (∀ x ∈ l, x = 0) → val B l = 0
  | [], _ => rfl
  | x :: r, h => by
    rw [val_cons, h x (List.mem_cons_self ..), val_zero (fun y hy => h y (List.mem_cons_of_mem _ hy))]
    simp
/-- The digits of a number. -/
def dig (B n : Nat) : List Nat := if h : n = 0 ∨ B < 2 then [] else (n % B) :: dig B (n / B)
termination_by n
decreasing_by exact Nat.div_lt_self (by omega) (by omega)
theorem dig_zero (B : Nat) : dig B 0 = [] := by rw [dig]; simp
theorem dig_pos {B n : Nat} (hB : 2 ≤ B) (h : 0 < n) : dig B n = (n % B) :: dig B (n / B) := by
  rw [dig, dif_neg (by omega)]
theorem val_dig {B : Nat} (hB : 2 ≤ B) (n : Nat) : val B (dig B n) = n := by
  induction n using Nat.strongRecOn with
  | ind n ih =>
    rcases Nat.eq_zero_or_pos n with rfl | h
    · rw [dig_zero]; rfl
    · rw [dig_pos hB h, val_cons, ih _ (Nat.div_lt_self h hB)]
      exact Nat.mod_add_div n B
theorem dig_lt {B : Nat} (hB : 2 ≤ B) (n : Nat) : ∀ x ∈ dig B n, x < B := by
  induction n using Nat.strongRecOn with
  | ind n ih =>
    rcases Nat.eq_zero_or_pos n with rfl | h
    · rw [dig_zero]; intro x hx; cases hx
    · rw [dig_pos hB h]
      intro x hx
      rcases List.mem_cons.1 hx with rfl | hx
      · exact Nat.mod_lt _ (by omega)
      · exact ih _ (Nat.div_lt_self h hB) x hx
/-- No 0 stands at the end. -/
def Canon (l : List Nat) : Prop := l.length = 0 ∨ l.getD (l.length - 1) 0 ≠ 0
instance (l : List Nat) : Decidable (Canon l) := by unfold Canon; exact inferInstance
theorem canon_nil : Canon [] := Or.inl rfl
theorem canon_tail {x : Nat} {r : List Nat} (h : Canon (x :: r)) : Canon r := by
  rcases h with h | h
  · simp at h
  · rcases r with _ | ⟨y, r⟩
    · exact Or.inl rfl
    · right
      simpa using h
theorem canon_val_pos {B : Nat} (hB : 2 ≤ B) : ∀ {l : List Nat}, Canon l → 0 < l.length → 0 < val B l
  | [], _, h => by simp at h
  | x :: [], h, _ => by
    rcases h with h | h
    · simp at h
    · simp at h
      rw [val_cons, val_nil]
      omega
  | x :: y :: r, h, _ => by
    have := canon_val_pos hB (canon_tail h) (by simp)
    rw [val_cons]
    have : 0 < B * val B (y :: r) := Nat.mul_pos (by omega) this
    omega
theorem canon_eq {B : Nat} (hB : 2 ≤ B) : ∀ {l : List Nat}, (∀ x ∈ l, x < B) → Canon l → l = dig B (val B l)
  | [], _, _ => by rw [val_nil, dig_zero]
  | x :: r, hl, hc => by
    have hx := hl x (List.mem_cons_self ..)
    have hr := canon_eq hB (l := r) (fun y hy => hl y (List.mem_cons_of_mem _ hy)) (canon_tail hc)
    have hp := canon_val_pos hB hc (by simp)
    rw [dig_pos hB hp]
    have h1 : val B (x :: r) % B = x := by rw [val_cons, Nat.add_mul_mod_self_left, Nat.mod_eq_of_lt hx]
    have h2 : val B (x :: r) / B = val B r := by rw [val_cons, Nat.add_mul_div_left _ _ (by omega), Nat.div_eq_of_lt hx, Nat.zero_add]
    rw [h1, h2, ← hr]
theorem dig_canon {B : Nat} (hB : 2 ≤ B) (n : Nat) : Canon (dig B n) := by
  induction n using Nat.strongRecOn with
  | ind n ih =>
    rcases Nat.eq_zero_or_pos n with rfl | h
    · rw [dig_zero]; exact canon_nil
    · rw [dig_pos hB h]
      have i := ih _ (Nat.div_lt_self h hB)
      rcases Nat.eq_zero_or_pos (n / B) with h0 | h0
      · rw [h0, dig_zero]
        right
        simp
        have : n < B := by
          rcases Nat.lt_or_ge n B with h1 | h1
          · exact h1
          · have := Nat.div_pos h1 (by omega); omega
        rw [Nat.mod_eq_of_lt this]
        omega
      · rcases hd : dig B (n / B) with _ | ⟨y, r⟩
        · have := val_dig hB (n / B)
          rw [hd, val_nil] at this
          omega
        · rw [hd] at i
          rcases i with i | i
          · simp at i
          · right
            simpa using i
theorem canon_inj {B : Nat} (hB : 2 ≤ B) {a b : List Nat} (ha : ∀ x ∈ a, x < B) (hb : ∀ x ∈ b, x < B) (ca : Canon a) (cb : Canon b) (h : val B a = val B b) : a = b := by
  rw [canon_eq hB ha ca, canon_eq hB hb cb, h]
theorem dig_len_le {B : Nat} (hB : 2 ≤ B) {n k : Nat} (h : n < B ^ k) : (dig B n).length ≤ k := by
  induction k generalizing n with
  | zero => rw [Nat.pow_zero] at h; rw [show n = 0 by omega, dig_zero]; simp
  | succ k ih =>
    rcases Nat.eq_zero_or_pos n with rfl | h0
    · rw [dig_zero]; simp
    · rw [dig_pos hB h0, List.length_cons]
      have : n / B < B ^ k := by
        rw [Nat.div_lt_iff_lt_mul (by omega)]
        rw [Nat.pow_succ] at h
        exact h
      have := ih this
      omega
theorem dig_len_gt {B : Nat} (hB : 2 ≤ B) {n k : Nat} (h : B ^ k ≤ n) : k < (dig B n).length := by
  rcases Nat.lt_or_ge k (dig B n).length with h1 | h1
  · exact h1
  · have h2 := val_lt (dig_lt hB n)
    rw [val_dig hB] at h2
    have := Nat.pow_le_pow_right (show 0 < B by omega) h1
    omega
theorem take_all_zero {B : Nat} {l : List Nat} {m : Nat} (hm : m ≤ l.length) (h : ∀ k, m ≤ k → k < l.length → l.getD k 0 = 0) : val B (l.take m) = val B l := by
  conv => rhs; rw [← List.take_append_drop m l]
  rw [val_app, val_zero (l := l.drop m), Nat.mul_zero, Nat.add_zero]
  intro x hx
  obtain ⟨k, hk, e⟩ := List.getElem_of_mem hx
  rw [List.length_drop] at hk
  have := h (m + k) (by omega) (by omega)
  rw [List.getD_eq_getElem?_getD, List.getElem?_eq_getElem (by omega)] at this
  rw [← e, List.getElem_drop]
  simpa using this
/-- What is left when the 0 at the end are cut off. -/
theorem cut_eq {B : Nat} (hB : 2 ≤ B) {l : List Nat} (hl : ∀ x ∈ l, x < B) {m : Nat} (hm : m ≤ l.length) (h0 : ∀ k, m ≤ k → k < l.length → l.getD k 0 = 0) (hc : m = 0 ∨ l.getD (m - 1) 0 ≠ 0) :
    l.take m = dig B (val B l) := by
  rw [← take_all_zero (B := B) hm h0]
  refine canon_eq hB (fun x hx => hl x (List.mem_of_mem_take hx)) ?_
  rcases Nat.eq_zero_or_pos m with h | hp
  · exact Or.inl (by rw [h]; simp)
  · right
    rw [List.length_take, Nat.min_eq_left hm, List.getD_eq_getElem?_getD, List.getElem?_take, if_pos (by omega), ← List.getD_eq_getElem?_getD]
    exact hc.resolve_left (by omega)
theorem val_take_succ (B : Nat) (l : List Nat) (k : Nat) (h : k < l.length) : val B (l.take (k + 1)) = val B (l.take k) + B ^ k * l.getD k 0 := by
  rw [List.take_succ_eq_append_getElem h, val_snoc, List.length_take, Nat.min_eq_left (by omega), List.getD_eq_getElem?_getD, List.getElem?_eq_getElem h]
  rfl
/-- One step of comparing from the top: above k both are the same. -/
theorem val_drop_split (B : Nat) (l : List Nat) (k : Nat) : val B l = val B (l.take k) + B ^ (min k l.length) * val B (l.drop k) := by
  conv => lhs; rw [← List.take_append_drop k l]
  rw [val_app, List.length_take]
/-- The digit at a place; 0 behind them. -/
theorem val_pad (B : Nat) (l : List Nat) (n : Nat) (h : l.length ≤ n) : val B ((List.range n).map (fun k => l.getD k 0)) = val B l := by
  have e : (List.range n).map (fun k => l.getD k 0) = l ++ List.replicate (n - l.length) 0 := by
    apply List.ext_getElem
    · simp; omega
    · intro i h1 h2
      simp only [List.getElem_map, List.getElem_range]
      rw [List.getD_eq_getElem?_getD]
      rcases Nat.lt_or_ge i l.length with h3 | h3
      · rw [List.getElem?_eq_getElem h3, List.getElem_append_left h3]; rfl
      · rw [List.getElem?_eq_none h3, List.getElem_append_right h3, List.getElem_replicate]; rfl
  rw [e, val_app, val_zero (l := List.replicate _ _) (fun x hx => (List.mem_replicate.1 hx).2), Nat.mul_zero, Nat.add_zero]
/-- Numbers of the first k digits, read with 0 behind the list. -/
def pre (B : Nat) (l : List Nat) (k : Nat) : Nat := val B ((List.range k).map (fun i => l.getD i 0))
theorem pre_zero (B : Nat) (l : List Nat) : pre B l 0 = 0 := rfl
theorem pre_succ (B : Nat) (l : List Nat) (k : Nat) : pre B l (k + 1) = pre B l k + B ^ k * l.getD k 0 := by
  unfold pre
  rw [List.range_succ, List.map_append, List.map_cons, List.map_nil, val_snoc, List.length_map, List.length_range]
theorem pre_all (B : Nat) (l : List Nat) (n : Nat) (h : l.length ≤ n) : pre B l n = val B l := val_pad B l n h
theorem getD_lt {B : Nat} (hB : 0 < B) {l : List Nat} (h : ∀ x ∈ l, x < B) (k : Nat) : l.getD k 0 < B := by
  rw [List.getD_eq_getElem?_getD]
  rcases Nat.lt_or_ge k l.length with h1 | h1
  · rw [List.getElem?_eq_getElem h1]; exact h _ (List.getElem_mem _)
  · rw [List.getElem?_eq_none h1]; exact hB
theorem pre_lt {B : Nat} (hB : 0 < B) {l : List Nat} (h : ∀ x ∈ l, x < B) (k : Nat) : pre B l k < B ^ k := by
  have := val_lt (B := B) (l := (List.range k).map (fun i => l.getD i 0)) (by
    intro x hx
    obtain ⟨i, _, rfl⟩ := List.mem_map.1 hx
    exact getD_lt hB h i)
  simpa [pre] using this
/-- Comparing from the top. -/
theorem cmp_top {B : Nat} {a b : List Nat} (hB : 0 < B) (ha : ∀ x ∈ a, x < B) (hb : ∀ x ∈ b, x < B) {n k : Nat} (hk : k < n) (hab : ∀ i, k < i → i < n → a.getD i 0 = b.getD i 0) (h : a.getD k 0 < b.getD k 0) : pre B a n < pre B b n := by
  induction n with
  | zero => omega
  | succ n ih =>
    rw [pre_succ, pre_succ]
    rcases Nat.lt_or_ge k n with h1 | h1
    · have := ih h1 (fun i h2 h3 => hab i h2 (by omega))
      rw [hab n h1 (by omega)]
      omega
    · obtain rfl : k = n := by omega
      have h2 := pre_lt hB ha k
      have h3 : B ^ k * (a.getD k 0 + 1) ≤ B ^ k * b.getD k 0 := Nat.mul_le_mul_left _ h
      rw [Nat.mul_add, Nat.mul_one] at h3
      omega
theorem pre_eq {B : Nat} {a b : List Nat} {n : Nat} (h : ∀ i, i < n → a.getD i 0 = b.getD i 0) : pre B a n = pre B b n := by
  induction n with
  | zero => rfl
  | succ n ih => rw [pre_succ, pre_succ, ih (fun i hi => h i (by omega)), h n (by omega)]
def cmpI (x y : Nat) : Int := if x < y then -1 else if y < x then 1 else 0
end Go.Proofs.Ytdmjdpaehnhdoaa
