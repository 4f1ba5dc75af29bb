/- Field: what Number and Dyad answer, program's and reference's, as one function of the bytes; an argument that is bytes that are read, opened. -/
import Derived.Test.YtekeenldlkkljaaZ
import Derived.Test.YtekeenldlkkljaaOpen
namespace Go.Proofs.Ytekeenldlkkljaa
open Go.ChangeShapes Go.WideShapes Go.ChangeAt Go.RowKit Go.Joins Go.Deep
set_option linter.unusedSimpArgs false
set_option linter.unusedVariables false
def nE (l : List Int) (p s : Int) : Int := if rdrE l.length p = 8 then 8 else if s < 1 ∨ 8 < s then 2 else if (l.length : Int) < p + s then 40 else 0
def nS (l : List Int) (p s : Int) : List Int × Int × Int := if nE l p s = 0 then (l, p + s, numI ((l.drop p.toNat).take s.toNat)) else ([], 0, 0)
def NPost (w : World) (R : List Int × Int × Int) (e : Int) (en : Ending) (w' : World) : Prop :=
  ∃ A c, en = .returned (.tuple #[rst A R.1.length c R.2.1, .int .u64 R.2.2, .int .i64 e]) ∧ Reads w' w'.heap.size 1 A R.1.length (u8s R.1) ∧ Below w.heap.size w w'
theorem nnil {w w' : World} (hb : Below w.heap.size w w') (e : Int) : NPost w ([], 0, 0) e (.returned (.tuple #[rst none 0 0 0, .int .u64 0, .int .i64 e])) w' := ⟨none, 0, rfl, Reads.none_, hb⟩
theorem num_v (A : Option Addr) (n c : Nat) (l : List Int) (hn : l.length = n) (hb : ∀ b ∈ l, 0 ≤ b ∧ b < 256) (hm : n ≤ 100000) (hnc : n ≤ c) (p s : Int) (w : World) (hR : Reads w w.heap.size 1 A n (u8s l)) :
    Calls Try.prog 15 #[rst A n c p, .int .i64 s] w (NPost w (nS l p s) (nE l p s)) := by
  subst hn
  by_cases h0 : rdrE l.length p = 8
  · have e : nE l p s = 8 := if_pos h0
    rw [show nS l p s = ([], 0, 0) from if_neg (by rw [e]; decide), e]
    exact (num_bad A l.length c p s h0 w).mono fun _ _ ⟨a, b⟩ => a ▸ nnil b 8
  · have hp0 : 0 ≤ p ∧ p ≤ l.length := by unfold rdrE at h0; split at h0; assumption; simp at h0
    have hr : rdrE l.length p = 0 := if_pos hp0
    rcases Int.lt_or_le s 1 with h1 | h1
    · have e : nE l p s = 2 := by unfold nE; rw [if_neg h0, if_pos (Or.inl h1)]
      rw [show nS l p s = ([], 0, 0) from if_neg (by rw [e]; decide), e]
      exact (num_arg0 A l.length c p s hr h1 w).mono fun _ _ ⟨a, b⟩ => a ▸ nnil b 2
    · rcases Int.lt_or_le 8 s with h8 | h8
      · have e : nE l p s = 2 := by unfold nE; rw [if_neg h0, if_pos (Or.inr h8)]
        rw [show nS l p s = ([], 0, 0) from if_neg (by rw [e]; decide), e]
        exact (num_arg8 A l.length c p s hr h8 w).mono fun _ _ ⟨a, b⟩ => a ▸ nnil b 2
      · obtain ⟨q, rfl⟩ : ∃ q : Nat, p = q := ⟨p.toNat, by omega⟩
        obtain ⟨t, rfl⟩ : ∃ t : Nat, s = t := ⟨s.toNat, by omega⟩
        by_cases hs : l.length < q + t
        · have e : nE l q t = 40 := by unfold nE; rw [if_neg h0, if_neg (by omega), if_pos (by omega)]
          rw [show nS l q t = ([], 0, 0) from if_neg (by rw [e]; decide), e]
          exact (num_short A l.length c hm q t (by omega) (by omega) (by omega) hs w).mono fun _ _ ⟨a, b⟩ => a ▸ nnil b 40
        · have e : nE l q t = 0 := by unfold nE; rw [if_neg h0, if_neg (by omega), if_neg (by omega)]
          rw [show nS l q t = (l, (q : Int) + t, numI ((l.drop q).take t)) from if_pos e, e]
          exact (num_ok A l.length c l rfl hb hm hnc q t (by omega) (by omega) (by omega) w hR).mono fun _ _ ⟨a, b⟩ => ⟨A, c, a, (hR.below b).more b.size, b⟩
theorem rnum_v (A : Option Addr) (n c : Nat) (l : List Int) (hn : l.length = n) (hb : ∀ b ∈ l, 0 ≤ b ∧ b < 256) (hm : n ≤ 100000) (hnc : n ≤ c) (p s : Int) (w : World) (hR : Reads w w.heap.size 1 A n (u8s l)) :
    Calls Try.prog 16 #[rst A n c p, .int .i64 s] w (NPost w (nS l p s) (nE l p s)) := by
  subst hn
  by_cases h0 : rdrE l.length p = 8
  · have e : nE l p s = 8 := if_pos h0
    rw [show nS l p s = ([], 0, 0) from if_neg (by rw [e]; decide), e]
    exact (rnum_bad A l.length c p s h0 w).mono fun _ _ ⟨a, b⟩ => a ▸ nnil b 8
  · have hp0 : 0 ≤ p ∧ p ≤ l.length := by unfold rdrE at h0; split at h0; assumption; simp at h0
    have hr : rdrE l.length p = 0 := if_pos hp0
    rcases Int.lt_or_le s 1 with h1 | h1
    · have e : nE l p s = 2 := by unfold nE; rw [if_neg h0, if_pos (Or.inl h1)]
      rw [show nS l p s = ([], 0, 0) from if_neg (by rw [e]; decide), e]
      exact (rnum_arg0 A l.length c p s hr h1 w).mono fun _ _ ⟨a, b⟩ => a ▸ nnil b 2
    · rcases Int.lt_or_le 8 s with h8 | h8
      · have e : nE l p s = 2 := by unfold nE; rw [if_neg h0, if_pos (Or.inr h8)]
        rw [show nS l p s = ([], 0, 0) from if_neg (by rw [e]; decide), e]
        exact (rnum_arg8 A l.length c p s hr h8 w).mono fun _ _ ⟨a, b⟩ => a ▸ nnil b 2
      · obtain ⟨q, rfl⟩ : ∃ q : Nat, p = q := ⟨p.toNat, by omega⟩
        obtain ⟨t, rfl⟩ : ∃ t : Nat, s = t := ⟨s.toNat, by omega⟩
        by_cases hs : l.length < q + t
        · have e : nE l q t = 40 := by unfold nE; rw [if_neg h0, if_neg (by omega), if_pos (by omega)]
          rw [show nS l q t = ([], 0, 0) from if_neg (by rw [e]; decide), e]
          exact (rnum_short A l.length c q t hr hm h1 h8 (by omega) (by omega) (by omega) w).mono fun _ _ ⟨a, b⟩ => a ▸ nnil b 40
        · have e : nE l q t = 0 := by unfold nE; rw [if_neg h0, if_neg (by omega), if_neg (by omega)]
          rw [show nS l q t = (l, (q : Int) + t, numI ((l.drop q).take t)) from if_pos e, e]
          exact (rnum_ok A l.length c l rfl hb hm hnc q t (by omega) (by omega) (by omega) w hR).mono fun _ _ ⟨a, b⟩ => ⟨A, c, a, (hR.below b).more b.size, b⟩
theorem nS_byte {l : List Int} (hb : ∀ b ∈ l, 0 ≤ b ∧ b < 256) (p s : Int) : ∀ b ∈ (nS l p s).1, 0 ≤ b ∧ b < 256 := by
  unfold nS
  split
  · exact hb
  · intro b h; cases h
def dS (l : List Int) (p : Int) : List Int × Int × Bool × List Int × Int := if dyE l p = 0 then (l, p + 4 + 4 * (vM l p.toNat : Int), vN l p.toNat == 1, limbsOf l p.toNat (vM l p.toNat), vX l p.toNat) else ([], 0, false, [], 0)
def DOwn (w : World) (R : List Int × Int × Bool × List Int × Int) (e : Int) (en : Ending) (w' : World) : Prop :=
  ∃ A c Al cl, en = .returned (.tuple #[rst A R.1.length c R.2.1, dy R.2.2.1 Al R.2.2.2.1.length cl R.2.2.2.2, .int .i64 e]) ∧ Reads w' w'.heap.size 1 A R.1.length (u8s R.1) ∧ w'.ownsRow w.heap.size 50 1 (.slice Al R.2.2.2.1.length cl) R.2.2.2.1.length (u32s R.2.2.2.1) ∧ Below w.heap.size w w'
def DRead (w : World) (R : List Int × Int × Bool × List Int × Int) (e : Int) (en : Ending) (w' : World) : Prop :=
  ∃ A c Al cl, en = .returned (.tuple #[rst A R.1.length c R.2.1, dy R.2.2.1 Al R.2.2.2.1.length cl R.2.2.2.2, .int .i64 e]) ∧ Reads w' w'.heap.size 1 A R.1.length (u8s R.1) ∧ Reads w' w'.heap.size 1 Al R.2.2.2.1.length (u32s R.2.2.2.1) ∧ Below w.heap.size w w'
theorem dyad_v (A : Option Addr) (n c : Nat) (l : List Int) (hn : l.length = n) (hb : ∀ b ∈ l, 0 ≤ b ∧ b < 256) (hm : n ≤ 100000) (hnc : n ≤ c) (p : Int) (w : World) (hR : Reads w w.heap.size 1 A n (u8s l)) :
    Calls Try.prog 17 #[rst A n c p] w (DOwn w (dS l p) (dyE l p)) := by
  refine (dyad_any A n c l hn hb hm hnc p _ rfl w hR).mono ?_
  rintro en w' ⟨hb', ⟨h1, rfl⟩ | ⟨h1, Al, cl, rfl, ho⟩⟩
  · rw [show dS l p = ([], 0, false, [], 0) from if_neg (by simpa using h1)]
    exact ⟨none, 0, none, 0, rfl, Reads.none_, World.ownsRow_nil _ _ _ _, hb'⟩
  · rw [show dS l p = _ from if_pos h1, h1]
    refine ⟨A, c, Al, cl, ?_, ?_, ?_, hb'⟩
    · simp only [limbs_len, hn]
    · simp only [hn]; exact (hR.below hb').more hb'.size
    · simp only [limbs_len]; exact ho
theorem rdyad_v (A : Option Addr) (n c : Nat) (l : List Int) (hn : l.length = n) (hb : ∀ b ∈ l, 0 ≤ b ∧ b < 256) (hm : n ≤ 100000) (hnc : n ≤ c) (hA : A = none → c = 0) (p : Int) (w : World) (hR : Reads w w.heap.size 1 A n (u8s l)) :
    Calls Try.prog 18 #[rst A n c p] w (DRead w (dS l p) (dyE l p)) := by
  have nil : ∀ (e : Int), dyE l p = e → (e != 0) = true → ∀ en w', (en = Ending.returned (.tuple #[rst none 0 0 0, dy false none 0 0 0, .int .i64 e]) ∧ Below w.heap.size w w') → DRead w (dS l p) (dyE l p) en w' := by
    rintro e he h0 en w' ⟨rfl, hb'⟩
    rw [show dS l p = ([], 0, false, [], 0) from if_neg (by rw [he]; simpa using h0), he]
    exact ⟨none, 0, none, 0, rfl, Reads.none_, Reads.none_, hb'⟩
  by_cases h0 : rdrE n p = 8
  · exact (rdyad_bad A n c p h0 w).mono (nil 8 (by unfold dyE; rw [if_pos (by rw [hn]; exact h0)]) rfl)
  · have hp0 : 0 ≤ p ∧ p ≤ n := by unfold rdrE at h0; split at h0; assumption; simp at h0
    obtain ⟨q, rfl⟩ : ∃ q : Nat, p = q := ⟨p.toNat, by omega⟩
    have h0' : ¬ rdrE l.length (q : Int) = 8 := by rw [hn]; exact h0
    by_cases h4 : n < q + 4
    · have e : dyE l (q : Int) = 40 := by unfold dyE; rw [if_neg h0', if_pos (by simp; omega)]
      rcases A with _ | ad
      · have hn0 : n = 0 := by
          rcases Nat.eq_zero_or_pos n with h | h
          · exact h
          · obtain ⟨ad, h1, _⟩ := hR.2 h
            cases h1
        have hc0 := hA rfl
        obtain rfl : q = 0 := by omega
        subst hn0 hc0
        exact (rdyad_none w).mono (nil 40 e rfl)
      · rcases Nat.lt_or_ge q n with hq | hq
        · exact (rdyad_head ad n c q hnc hq h4 w).mono (nil 40 e rfl)
        · obtain rfl : q = n := by omega
          by_cases hcq : c = q
          · subst hcq
            exact (rdyad_full ad c w).mono (nil 40 e rfl)
          · exact (rdyad_end ad q c hnc hcq w).mono (nil 40 e rfl)
    · obtain ⟨ad, _, rfl, _⟩ := hR.at_ (show 0 < n by omega)
      have hMn : numI ((l.drop (q + 3)).take 1) = l.getD (q + 3) 0 := num_one l (q + 3) (by omega)
      have hMb := part_range hb (q + 3) 1
      rw [hMn] at hMb
      have hM : l.getD (q + 3) 0 = (vM l q : Int) := by unfold vM; rw [hMn]; exact (Int.toNat_of_nonneg hMb.1).symm
      have hM8 : vM l q < 256 := by have := hMb.2; simp at this; omega
      by_cases h5 : n < q + 4 + 4 * vM l q
      · have e : dyE l (q : Int) = 40 := by unfold dyE; rw [if_neg h0', if_neg (by simp; omega), if_pos (by simp; omega)]
        exact (rdyad_short ad n c q l hn hm hnc _ hM hM8 (by omega) h5 w hR).mono (nil 40 e rfl)
      · have hN : l.getD q 0 = vN l q := (num_one l q (by omega)).symm
        have hE : (if (decide (1 < vN l q) || !mayD (vN l q == 1) (limbsOf l q (vM l q)) (vX l q)) = true then (41 : Int) else 0) = dyE l (q : Int) := by
          unfold dyE
          simp only [Int.toNat_natCast]
          rw [if_neg h0', if_neg (show ¬ l.length < q + 4 by omega), if_neg (show ¬ l.length < q + 4 + 4 * vM l q by omega)]
        refine (rdyad_go ad n c q (vM l q) l hn hb hm hnc (vN l q) (vX l q) hM hM8 hN rfl (dyE l (q : Int)) (Lib.hid hE) (by omega) w hR).mono ?_
        rintro en w' ⟨hb', ⟨h1, rfl⟩ | ⟨h1, Al, cl, rfl, ho⟩⟩
        · exact nil _ rfl h1 _ _ ⟨rfl, hb'⟩
        · rw [show dS l (q : Int) = _ from if_pos h1, h1]
          refine ⟨some ad, c, Al, cl, ?_, ?_, ?_, hb'⟩
          · simp only [limbs_len, hn]
          · simp only [hn]; exact (hR.below hb').more hb'.size
          · simp only [limbs_len]; exact ho
theorem dS_byte {l : List Int} (hb : ∀ b ∈ l, 0 ≤ b ∧ b < 256) (p : Int) : ∀ b ∈ (dS l p).1, 0 ≤ b ∧ b < 256 := by
  unfold dS
  split
  · exact hb
  · intro b h; cases h
theorem dS_len (l : List Int) (p : Int) : (dS l p).2.2.2.1.length ≤ 40 := by
  unfold dS
  split
  · rename_i h
    have hp : ∃ q : Nat, p = q := by
      refine ⟨p.toNat, ?_⟩
      have : ¬ rdrE l.length p = 8 := by
        intro h8
        unfold dyE at h
        rw [if_pos h8] at h
        cases h
      unfold rdrE at this
      split at this
      · omega
      · simp at this
    obtain ⟨q, rfl⟩ := hp
    have := (dyE_zero h).2.2
    unfold mayD mayL at this
    simp only [Bool.and_eq_true, decide_eq_true_eq] at this
    exact this.1.1
  · simp
section
variable {H : Type} {enc : TypeId × Value → H} {P : Program} {w : World}
theorem open_fieldc {n0 : Nat} {t e : TypeId} {k : IntKind} {v : Value} {y : DataW H × List MemPlace} (ht : P.underlying t = some (.slice e)) (he : P.underlying e = some (.int k)) (hc : P.cellsOf e = 1)
    (hf : DataW.trod enc P w 0 (fun _ => true) true n0 t [v] = some y) :
    ∃ (A : Option Addr) (n c : Nat) (zs : List Int), v = .slice A n c ∧ n ≤ c ∧ c ≤ maxLen ∧ (A = none → c = 0) ∧ zs.length = n ∧ Reads w w.heap.size 1 A n (zs.map (Value.int k)) ∧ ∀ z ∈ zs, (Lit.int k z).wf = true := by
  rcases open_ints ht he hc hf with ⟨hcs, _⟩ | ⟨a, len', cap', zs, hcs, _, hl, hm, hz, _, hcell, hwf⟩
  · simp only [List.cons.injEq, and_true] at hcs
    subst hcs
    exact ⟨none, 0, 0, [], rfl, Nat.le_refl _, Nat.zero_le _, fun _ => rfl, rfl, Reads.none_, by simp⟩
  · simp only [List.cons.injEq, and_true] at hcs
    subst hcs
    simp only [if_true] at hz
    refine ⟨some a, len', cap', zs.take len', rfl, hl, hm, fun h => (by cases h), by simp; omega, ⟨by simp; omega, fun hn => ⟨a, rfl, ?_, ?_⟩⟩, fun z hz' => hwf z (List.mem_of_mem_take hz')⟩
    · have := World.block_lt_of_cell? w _ (hcell 0 (by omega))
      rwa [block_of_add] at this
    · intro j u hu
      rw [List.getElem?_map, List.getElem?_take] at hu
      split at hu
      · rename_i hj
        have hj' : j < zs.length := by omega
        rw [hcell j hj', List.getD_eq_getElem?_getD]
        rw [List.getElem?_eq_getElem hj'] at hu ⊢
        simpa using hu
      · simp at hu
/-- An argument that is bytes that are read. -/
theorem open_rest {r : Reach} {b0 : Nat} {t ts te ti : TypeId} {f0 f1 : Field} {v : Value} {d : DataW H} {p : List MemPlace} (hs : P.underlying t = some (.struct #[f0, f1])) (hone : oneCellFields P #[f0, f1] = true) (hC : P.cellsOf t = 2)
    (e0 : f0.type = ts) (e1 : f1.type = ti) (hsl : P.underlying ts = some (.slice te)) (he : P.underlying te = some (.int .u8)) (hc : P.cellsOf te = 1) (hi : P.underlying ti = some (.int .i64))
    (hv : Value.okWide P w r b0 t v) (h : DataW.Trod enc P w 0 (fun _ => true) true t v d p) :
    ∃ (A : Option Addr) (n c : Nat) (l : List Int) (e : Int), v = rst A n c e ∧ n ≤ c ∧ c ≤ maxLen ∧ (A = none → c = 0) ∧ l.length = n ∧ Reads w w.heap.size 1 A n (u8s l) ∧ (∀ z ∈ l, 0 ≤ z ∧ z < 256) := by
  obtain ⟨v0, v1, y0, y1, n, rfl, _, _, t0, t1⟩ := open_agg2 hs hone hC hv h
  rw [e0] at t0; rw [e1] at t1
  obtain ⟨A, m, c, zs, rfl, hmc, hcm, hA, hz, hR, hwf⟩ := open_fieldc hsl he hc t0
  obtain ⟨a2, q2, _, w2⟩ := DataW.trod_int hi t1
  simp only [List.cons.injEq, and_true] at q2
  subst q2
  exact ⟨A, m, c, zs, a2, rfl, hmc, hcm, hA, hz, hR, fun z hz => u8_range (hwf z hz)⟩
end
end Go.Proofs.Ytekeenldlkkljaa
