/- Flight: what was launched comes down just once: plain -/
import Derived.Test.YtdmjdpaehnhdoaaNE
import Derived.Test.YtdmjdpaehnhdoaaLU
namespace Go.Proofs.Ytdmjdpaehnhdoaa
open Go.ChangeShapes Go.WideShapes Go.ChangeAt Go.RowKit
set_option linter.unusedSimpArgs false
set_option linter.unusedVariables false
/-- Loads whose Numbers rise from P on. -/
def Gd (P : Int) : List En → Prop
  | [] => True
  | x :: r => oneF P x ∧ Gd x.nu r
def lastQ (P : Int) (l : List En) : Nat → Int
  | 0 => P
  | k + 1 => match l[k]? with
    | some x => x.nu
    | none => P
theorem lastQ_eq (l : List En) : ∀ k, lastN l k = lastQ (-1) l k
  | 0 => rfl
  | k + 1 => rfl
theorem lastQ_cons (P : Int) (y : En) (r : List En) : ∀ k, k ≤ r.length → lastQ P (y :: r) (k + 1) = lastQ y.nu r k
  | 0, _ => rfl
  | k + 1, hk => by
    show (match (y :: r)[k + 1]? with | some x => x.nu | none => P) = (match r[k]? with | some x => x.nu | none => y.nu)
    rw [List.getElem?_cons_succ, List.getElem?_eq_getElem (show k < r.length by omega)]
theorem gd_of : ∀ (l : List En) (P : Int), (∀ k x, l[k]? = some x → oneF (lastQ P l k) x) → Gd P l
  | [], _, _ => trivial
  | y :: r, P, h => ⟨h 0 y rfl, gd_of r y.nu (fun k x hx => by
      have := h (k + 1) x hx
      rwa [lastQ_cons P y r k (Nat.le_of_lt (List.getElem?_eq_some_iff.1 hx).1)] at this)⟩
theorem of_gd : ∀ (l : List En) (P : Int), Gd P l → ∀ k x, l[k]? = some x → oneF (lastQ P l k) x
  | [], _, _, k, x, h => by simp at h
  | y :: r, P, h, 0, x, hx => by
    injection hx with hx
    subst hx
    exact h.1
  | y :: r, P, h, k + 1, x, hx => by
    have hx' : r[k]? = some x := hx
    rw [lastQ_cons P y r k (Nat.le_of_lt (List.getElem?_eq_some_iff.1 hx').1)]
    exact of_gd r y.nu h.2 k x hx'
theorem good_gd {l : List En} : goodF l ↔ Gd (-1) l :=
  ⟨fun h => gd_of l (-1) (fun k x hx => by rw [← lastQ_eq]; exact h k x hx), fun h k x hx => by rw [lastQ_eq]; exact of_gd l (-1) h k x hx⟩
theorem gd_ins {X : En} (hX : ∀ P, P < X.nu → oneF P X) : ∀ (l : List En) (P : Int), Gd P l → P < X.nu → (∀ y ∈ l, y.nu ≠ X.nu) → Gd P (insL X l)
  | [], P, _, hP, _ => ⟨hX P hP, trivial⟩
  | y :: r, P, h, hP, hn => by
    show Gd P (if X.nu < y.nu then X :: y :: r else y :: insL X r)
    by_cases c : X.nu < y.nu
    · rw [if_pos c]
      exact ⟨hX P hP, ⟨c, h.1.2⟩, h.2⟩
    · rw [if_neg c]
      have := hn y (by simp)
      exact ⟨h.1, gd_ins hX r y.nu h.2 (by omega) (fun z hz => hn z (by simp [hz]))⟩
theorem ins_at (X : En) : ∀ (l : List En), ∃ k, (insL X l)[k]? = some X ∧ (insL X l).take k ++ (insL X l).drop (k + 1) = l ∧ ∀ X' : En, X'.nu = X.nu → insL X' l = (insL X l).set k X'
  | [] => ⟨0, rfl, rfl, fun X' _ => rfl⟩
  | y :: r => by
    by_cases c : X.nu < y.nu
    · refine ⟨0, ?_, ?_, fun X' h => ?_⟩
      · show (if X.nu < y.nu then X :: y :: r else y :: insL X r)[0]? = some X
        rw [if_pos c]; rfl
      · show (if X.nu < y.nu then X :: y :: r else y :: insL X r).take 0 ++ (if X.nu < y.nu then X :: y :: r else y :: insL X r).drop 1 = y :: r
        rw [if_pos c]; rfl
      · show (if X'.nu < y.nu then X' :: y :: r else y :: insL X' r) = (if X.nu < y.nu then X :: y :: r else y :: insL X r).set 0 X'
        rw [if_pos c, if_pos (by rw [h]; exact c)]; rfl
    · obtain ⟨k, h1, h2, h3⟩ := ins_at X r
      have e : insL X (y :: r) = y :: insL X r := if_neg c
      refine ⟨k + 1, ?_, ?_, fun X' h => ?_⟩
      · rw [e]; exact h1
      · rw [e]
        show y :: ((insL X r).take k ++ (insL X r).drop (k + 1)) = y :: r
        rw [h2]
      · rw [e]
        have e' : insL X' (y :: r) = y :: insL X' r := if_neg (by rw [h]; exact c)
        rw [e', h3 X' h]
        rfl
/-- What a launch that went well tells. -/
structure Lnc (l : List En) (N e : Int) (mx : Ms) : Prop where
  chk : ChkF l 0
  rn : 0 ≤ N ∧ N ≤ 1048575
  re : 0 ≤ e ∧ e ≤ 65535
  may : mayM mx = true
  no : ∀ (j : Nat) (y : En), l[j]? = some y → y.nu ≠ N
  len : l.length < 16
theorem lnc_of {l la : List En} {N e : Int} {mx : Ms} (h : LchF l N e mx la 0) : Lnc l N e mx ∧ la = insL ⟨N, e, 1, mx⟩ l := by
  rcases h with ⟨_, h, _⟩ | ⟨_, _, h, _⟩ | ⟨h1, h2, ⟨_, h, _⟩ | ⟨h3, ⟨_, h, _⟩ | ⟨h4, ⟨_, h, _⟩ | ⟨h5, ⟨_, h, _⟩ | ⟨h6, _, h⟩⟩⟩⟩⟩
  · exact absurd rfl h
  · cases h
  · cases h
  · cases h
  · cases h
  · cases h
  · exact ⟨⟨h1, h2, h3, h4, h5, h6⟩, h⟩
theorem Lnc.ins {l : List En} {N e : Int} {mx : Ms} (h : Lnc l N e mx) {q : Int} (h1 : 1 ≤ q) (h2 : q ≤ 16) : ChkF (insL ⟨N, e, q, mx⟩ l) 0 := by
  refine .inr (.inl ⟨by rw [insL_len]; have := h.len; omega, good_gd.2 ?_, rfl⟩)
  refine gd_ins (fun P hP => ⟨hP, h.rn.2, h.re.1, h.re.2, h1, h2, h.may⟩) l (-1) (good_gd.1 h.chk.good) (by have := h.rn.1; show (-1 : Int) < N; omega) (fun y hy => ?_)
  obtain ⟨j, hj, rfl⟩ := List.getElem_of_mem hy
  exact h.no j _ (List.getElem?_eq_getElem hj)
/-- The state: brought or not, its copies, the loads. -/
def StO (l : List En) (N e : Int) (mx : Ms) (B : Bool) (q : Int) (ln : List En) : Prop := (0 ≤ q ∧ q ≤ 16) ∧ ((B = false ∧ 1 ≤ q ∧ ln = insL ⟨N, e, q, mx⟩ l) ∨ (B = true ∧ ln = l))
theorem sto_dbl {l ln : List En} {N e q : Int} {mx : Ms} {B : Bool} (hl : Lnc l N e mx) (h : StO l N e mx B q ln) (hq : q ≠ 16) : ∃ ln', DblF ln N ln' 0 ∧ StO l N e mx B (q + 1) ln' := by
  obtain ⟨hq2, ⟨rfl, h1, rfl⟩ | ⟨rfl, rfl⟩⟩ := h
  · obtain ⟨k, a1, a2, a3⟩ := ins_at ⟨N, e, q, mx⟩ l
    exact ⟨insL ⟨N, e, q + 1, mx⟩ l, .inr (.inr ⟨hl.ins h1 hq2.2, hl.rn, .inl ⟨k, _, a1, rfl, .inr ⟨hq, a3 _ rfl, rfl⟩⟩⟩), by omega, .inl ⟨rfl, by omega, rfl⟩⟩
  · exact ⟨ln, .inr (.inr ⟨hl.chk, hl.rn, .inr ⟨hl.no, rfl, rfl⟩⟩), by omega, .inr ⟨rfl, rfl⟩⟩
theorem sto_down {l ln : List En} {N e q : Int} {mx : Ms} {B : Bool} (hl : Lnc l N e mx) (h : StO l N e mx B q ln) (hq : 1 ≤ q) (p : Bool) : ∃ ln' x, CmeF p ln N ln' x 0 ∧ ((x = zE ∧ StO l N e mx B (q - 1) ln') ∨ (B = false ∧ x.nu = N ∧ x.ep = e ∧ x.give = mx ∧ 1 ≤ x.cp ∧ StO l N e mx true (q - 1) ln')) := by
  obtain ⟨hq2, ⟨rfl, h1, rfl⟩ | ⟨rfl, rfl⟩⟩ := h
  · obtain ⟨k, a1, a2, a3⟩ := ins_at ⟨N, e, q, mx⟩ l
    by_cases c : p = true ∨ q = 1
    · exact ⟨l, ⟨N, e, q, mx⟩, .inr (.inr ⟨hl.ins h1 hq2.2, hl.rn, rfl, .inl ⟨k, _, a1, rfl, .inl ⟨c, a2.symm, rfl⟩⟩⟩), .inr ⟨rfl, rfl, rfl, rfl, h1, by omega, .inr ⟨rfl, rfl⟩⟩⟩
    · have : q ≠ 1 := fun e => c (.inr e)
      exact ⟨insL ⟨N, e, q - 1, mx⟩ l, zE, .inr (.inr ⟨hl.ins h1 hq2.2, hl.rn, rfl, .inl ⟨k, _, a1, rfl, .inr ⟨c, a3 _ rfl, rfl⟩⟩⟩), .inl ⟨rfl, by omega, .inl ⟨rfl, by omega, rfl⟩⟩⟩
  · exact ⟨ln, zE, .inr (.inr ⟨hl.chk, hl.rn, rfl, .inr ⟨hl.no, rfl, rfl⟩⟩), .inl ⟨rfl, by omega, .inr ⟨rfl, rfl⟩⟩⟩
theorem sto_len {l ln : List En} {N e q : Int} {mx : Ms} {B : Bool} (hs : ∀ x ∈ l, smM x.give) (hm : smM mx) (h : StO l N e mx B q ln) : ln.length ≤ l.length + 1 ∧ ∀ x ∈ ln, smM x.give := by
  obtain ⟨_, ⟨_, _, rfl⟩ | ⟨_, rfl⟩⟩ := h
  · exact ⟨Nat.le_of_eq (insL_len _ _), insL_sm hm hs⟩
  · exact ⟨Nat.le_succ _, hs⟩
end Go.Proofs.Ytdmjdpaehnhdoaa
