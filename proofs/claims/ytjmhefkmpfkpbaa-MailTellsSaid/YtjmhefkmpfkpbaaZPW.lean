/- Mail: what a content says (plain) | Mail: what mail.Read answers | Mail: lists that are read | Mail: frame.Take told by its error; mail.Read of what is no frame | Mail: what was written is read (plain) | Frame: arguments that are bytes, or slices of bytes, opened. | Frame: the contract of the reference's Sum. | Frame: the contracts of the reference's Framed and Put. | Frame: the contract of the reference's Take. -/
import Derived.Deep.RegionHeld3
import Derived.Lib.Hide
import Derived.StillTailTactics
import Derived.Deep.QuietTactic
import Derived.BigQuiet
import Derived.Test.YtjmhefkmpfkpbaaZPPR
import Derived.Test.YtjmhefkmpfkpbaaBackP
import Derived.Test.YtjmhefkmpfkpbaaZPlain
import Derived.Test.YtjmhefkmpfkpbaaTakeW
namespace Go.Proofs.Ytjmhefkmpfkpbaa
open Go.ChangeShapes Go.WideShapes Go.ChangeAt Go.RowKit
set_option linter.unusedSimpArgs false
set_option linter.unusedVariables false
section
variable {L pre suf l : List Int} {p m : Nat} {neg : Bool} {e : Nat}
end
/-- Descriptors, tags: so many, one behind the other. -/
def lpD (l : List Int) : Nat → Option Nat → List Tm → Option Nat × List Tm
  | 0, st, acc => (st, acc)
  | _ + 1, none, acc => (none, acc)
  | k + 1, some p, acc => lpD l k (rN l (rN l (some p) 1).1 4).1 (acc ++ [((rN l (some p) 1).2, (rN l (rN l (some p) 1).1 4).2)])
def lpN (l : List Int) : Nat → Option Nat → List Nat → Option Nat × List Nat
  | 0, st, acc => (st, acc)
  | _ + 1, none, acc => (none, acc)
  | k + 1, some p, acc => lpN l k (rN l (some p) 4).1 (acc ++ [(rN l (some p) 4).2.toNat])
/-- The four numbers ahead. -/
structure Hd where
  st : Option Nat
  fr : Int
  tt : Int
  ep : Int
  nu : Int
def hdR (l : List Int) : Hd :=
  ⟨(rN l (rN l (rN l (rN l (some 0) 1).1 1).1 2).1 3).1, (rN l (some 0) 1).2, (rN l (rN l (some 0) 1).1 1).2, (rN l (rN l (rN l (some 0) 1).1 1).1 2).2, (rN l (rN l (rN l (rN l (some 0) 1).1 1).1 2).1 3).2⟩
def zM : Ms := ⟨⟨false, [], 0⟩, ⟨false, [], 0⟩, ⟨false, [], 0⟩, ⟨false, [], 0⟩⟩
/-- What a content of a kind says. -/
def dec (k : Int) (l : List Int) : Option Nat × Ml :=
  let h := hdR l
  if k = 1 then ((rD l (rD l h.st).1).1, ⟨k, h.fr, h.tt, h.ep, h.nu, 0, ⟨(rD l h.st).2, (rD l (rD l h.st).1).2, ⟨false, [], 0⟩, ⟨false, [], 0⟩⟩, false, [], false, 0, 0, []⟩)
  else if k = 2 then ((rD l (rD l h.st).1).1, ⟨k, h.fr, h.tt, h.ep, h.nu, 0, ⟨⟨false, [], 0⟩, ⟨false, [], 0⟩, (rD l h.st).2, (rD l (rD l h.st).1).2⟩, false, [], false, 0, 0, []⟩)
  else if k = 3 then ((rD l (rD l (rN l h.st 3).1).1).1, ⟨k, h.fr, h.tt, h.ep, h.nu, (rN l h.st 3).2, ⟨⟨false, [], 0⟩, ⟨false, [], 0⟩, (rD l (rN l h.st 3).1).2, (rD l (rD l (rN l h.st 3).1).1).2⟩, false, [], false, 0, 0, []⟩)
  else if k = 4 then ((rN l h.st 3).1, ⟨k, h.fr, h.tt, h.ep, h.nu, (rN l h.st 3).2, zM, false, [], false, 0, 0, []⟩)
  else if k = 5 then ((lpD l (rN l (rN l h.st 1).1 1).2.toNat (rN l (rN l h.st 1).1 1).1 []).1, ⟨k, h.fr, h.tt, h.ep, h.nu, 0, zM, (rN l h.st 1).2 == 1, (lpD l (rN l (rN l h.st 1).1 1).2.toNat (rN l (rN l h.st 1).1 1).1 []).2, false, 0, 0, []⟩)
  else if k = 6 then
    ((lpN l (rN l (rN l (rN l (rN l h.st 1).1 4).1 4).1 1).2.toNat (rN l (rN l (rN l (rN l h.st 1).1 4).1 4).1 1).1 []).1,
     ⟨k, h.fr, h.tt, h.ep, h.nu, 0, zM, false, [], (rN l h.st 1).2 == 1, (rN l (rN l h.st 1).1 4).2 - 2147483648, (rN l (rN l (rN l h.st 1).1 4).1 4).2 - 2147483648, (lpN l (rN l (rN l (rN l (rN l h.st 1).1 4).1 4).1 1).2.toNat (rN l (rN l (rN l (rN l h.st 1).1 4).1 4).1 1).1 []).2⟩)
  else (h.st, ⟨k, h.fr, h.tt, h.ep, h.nu, 0, zM, false, [], false, 0, 0, []⟩)
/-- A content that is a mail's. -/
def GoodM (k : Int) (l : List Int) (m : Ml) : Prop := (dec k l).1.isSome = true ∧ m = (dec k l).2 ∧ okL m ∧ flat (conP m) = l
end Go.Proofs.Ytjmhefkmpfkpbaa
namespace Go.Proofs.Ytjmhefkmpfkpbaa
open Go.ChangeShapes Go.WideShapes Go.ChangeAt Go.RowKit
set_option linter.unusedSimpArgs false
set_option linter.unusedVariables false
theorem results_row_slot {P : Program} {fn : Func} {p e : Tmp} {ty : TypeId} (h : fn.results = #[.cell p ty, .tmp e]) (tmps : Array Value) (w : World) (g : Nat) (t : TypeId) (cs : Array Value) (fr : Nat × Nat) (d : TypeDesc)
    (hp : tmps.getD p undef = .pointer (some ⟨g, 0, none⟩)) (hg : w.heap[g]? = some (.cells cs t fr))
    (hu : P.underlying ty = some d) (hd : (match d with | .struct _ | .array _ _ => true | _ => false) = true) (hi : (P.info? ty).map (·.size) = some cs.size) :
    (results fn tmps).run P w = .ok (.tuple #[.agg cs, tmps.getD e undef]) w := by
  have hp' : tmps[p]?.getD undef = .pointer (some ⟨g, 0, none⟩) := by simpa using hp
  simp [results, h, hp', asAddr, run_loadVar_row w g t ty cs fr d hg hu hd hi]
theorem OwnR.only {w w' : World} {base n g : Nat} {e : TypeId} {A : Option Addr} {xs : List Value} (h : OwnR w base e A n xs) (ho : Only g w w') (hg : g < base) : OwnR w' base e A n xs :=
  ⟨h.1, fun h0 => by obtain ⟨k, cur, hA, hk, hh, ht⟩ := h.2 h0; exact ⟨k, cur, hA, hk, ho.blk hh (by omega), ht⟩⟩
theorem OwnR.setRow {w : World} {base n g : Nat} {e : TypeId} {A : Option Addr} {xs : List Value} (h : OwnR w base e A n xs) (hg : g < base) (cs : Array Value) : OwnR (w.setRow g cs) base e A n xs :=
  ⟨h.1, fun h0 => by obtain ⟨k, cur, hA, hk, hh, ht⟩ := h.2 h0; exact ⟨k, cur, hA, hk, hh.setRow_far (by omega) cs, ht⟩⟩
theorem Rdb.setRow {w : World} {g n c : Nat} {A : Option Addr} {st : Option Nat} (h : Rdb w g A n c st) {k : Nat} (hk : g ≠ k) (cs : Array Value) : Rdb (w.setRow k cs) g A n c st := h.keep (setRow_other _ _ _ _ hk)
def zeroL : Ml := ⟨0, 0, 0, 0, 0, 0, zM, false, [], false, 0, 0, []⟩
def zeroO : MO := ⟨zeroL, none, 0, none, 0, none, 0, none, 0, none, 0, none, 0⟩
/-- A mail whose rows are the call's own. -/
def ownL (w : World) (base : Nat) (o : MO) : Prop := ((o.x.give.s.ls.length ≤ o.c0 ∧ OwnR w base 52 o.X0 o.x.give.s.ls.length (ints .u32 o.x.give.s.ls)) ∧ (o.x.give.w.ls.length ≤ o.c1 ∧ OwnR w base 52 o.X1 o.x.give.w.ls.length (ints .u32 o.x.give.w.ls)) ∧ (o.x.give.c.ls.length ≤ o.c2 ∧ OwnR w base 52 o.X2 o.x.give.c.ls.length (ints .u32 o.x.give.c.ls)) ∧ (o.x.give.a.ls.length ≤ o.c3 ∧ OwnR w base 52 o.X3 o.x.give.a.ls.length (ints .u32 o.x.give.a.ls))) ∧ w.ownsRow base 73 2 (.slice o.D o.x.ds.length o.dc) o.x.ds.length (T2 o.x.ds) ∧ w.ownsRow base 52 1 (.slice o.L o.x.ls.length o.lc) o.x.ls.length (ints .u32 o.x.ls)
theorem own_nil {w : World} {base size c : Nat} {e : TypeId} : w.ownsRow base e size (.slice none 0 0) 0 [] := ⟨by simp, .inl ⟨rfl, rfl⟩⟩
theorem ownL.rd {w : World} {base : Nat} {o : MO} (h : ownL w base o) : rdL w w.heap.size o :=
  ⟨⟨⟨rfl, rfl, rfl, h.1.1.1, h.1.1.2.reads⟩, ⟨rfl, rfl, rfl, h.1.2.1.1, h.1.2.1.2.reads⟩, ⟨rfl, rfl, rfl, h.1.2.2.1.1, h.1.2.2.1.2.reads⟩, ⟨rfl, rfl, rfl, h.1.2.2.2.1, h.1.2.2.2.2.reads⟩⟩, ⟨rfl, Reads.of_own h.2.1⟩, Reads.of_own h.2.2⟩
theorem ownL.below {w w' : World} {base : Nat} {o : MO} (h : ownL w base o) (hb : Below w.heap.size w w') : ownL w' base o := ⟨⟨⟨h.1.1.1, h.1.1.2.below hb⟩, ⟨h.1.2.1.1, h.1.2.1.2.below hb⟩, ⟨h.1.2.2.1.1, h.1.2.2.1.2.below hb⟩, ⟨h.1.2.2.2.1, h.1.2.2.2.2.below hb⟩⟩, own_below h.2.1 hb, own_below h.2.2 hb⟩
theorem ownL.base {w : World} {base b : Nat} {o : MO} (h : ownL w base o) (hb : b + 1 ≤ base) : ownL w (b + 1) o := ⟨⟨⟨h.1.1.1, h.1.1.2.base_le hb⟩, ⟨h.1.2.1.1, h.1.2.1.2.base_le hb⟩, ⟨h.1.2.2.1.1, h.1.2.2.1.2.base_le hb⟩, ⟨h.1.2.2.2.1, h.1.2.2.2.2.base_le hb⟩⟩, own_mono h.2.1 hb, own_mono h.2.2 hb⟩
theorem own_setRow {w : World} {base size n k : Nat} {e : TypeId} {v : Value} {xs : List Value} (h : w.ownsRow base e size v n xs) (hk : k < base) (cs : Array Value) : (w.setRow k cs).ownsRow base e size v n xs := by
  refine ⟨h.1, ?_⟩
  rcases h.2 with hn | ⟨g, c, cur, rfl, hb, hh, r⟩
  · exact .inl hn
  · exact .inr ⟨g, c, cur, rfl, hb, (show Blk w g e cur from hh).setRow_far (by omega) cs, r⟩
theorem ownL.setRow {w : World} {b : Nat} {o : MO} (h : ownL w (b + 1) o) (_ : b < b + 1) (_ : b ≤ b + 1) (cs : Array Value) : ownL (w.setRow b cs) b o := ⟨⟨⟨h.1.1.1, (h.1.1.2.setRow (by omega) cs).base_le (by omega)⟩, ⟨h.1.2.1.1, (h.1.2.1.2.setRow (by omega) cs).base_le (by omega)⟩, ⟨h.1.2.2.1.1, (h.1.2.2.1.2.setRow (by omega) cs).base_le (by omega)⟩, ⟨h.1.2.2.2.1, (h.1.2.2.2.2.setRow (by omega) cs).base_le (by omega)⟩⟩, own_mono (own_setRow h.2.1 (by omega) cs) (by omega), own_mono (own_setRow h.2.2 (by omega) cs) (by omega)⟩
end Go.Proofs.Ytjmhefkmpfkpbaa
namespace Go.Proofs.Ytjmhefkmpfkpbaa
open Go.ChangeShapes Go.WideShapes Go.ChangeAt Go.RowKit
set_option linter.unusedSimpArgs false
set_option linter.unusedVariables false
theorem own_only {w w' : World} {base size n g : Nat} {e : TypeId} {v : Value} {xs : List Value} (h : w.ownsRow base e size v n xs) (ho : Only g w w') (hg : g < base) : w'.ownsRow base e size v n xs := by
  refine ⟨h.1, ?_⟩
  rcases h.2 with hn | ⟨k, c, cur, rfl, hb, hh, r⟩
  · exact .inl hn
  · exact .inr ⟨k, c, cur, rfl, hb, ho.blk (show Blk w k e cur from hh) (by omega), r⟩
theorem lpD_stop {l : List Int} {j : Nat} {st : Option Nat} {acc : List Tm} (h : (decide (0 < j) && st.isSome) = false) : lpD l j st acc = (st, acc) := by
  cases j with
  | zero => rfl
  | succ j => cases st with
    | none => rfl
    | some p => simp at h
theorem lpN_stop {l : List Int} {j : Nat} {st : Option Nat} {acc : List Nat} (h : (decide (0 < j) && st.isSome) = false) : lpN l j st acc = (st, acc) := by
  cases j with
  | zero => rfl
  | succ j => cases st with
    | none => rfl
    | some p => simp at h
theorem infoDs : (Try.prog.info? 73).map (fun i => (i.zero, i.size, i.bytes)) = some (some (.agg #[.int .i64 0, .int .i64 0]), 2, 16) := by kernel_rfl
theorem lpN_lt {l : List Int} (hb : ∀ b ∈ l, 0 ≤ b ∧ b < 256) : ∀ (j : Nat) (st : Option Nat) (acc : List Nat), (∀ x ∈ acc, x < 4294967296) → ∀ x ∈ (lpN l j st acc).2, x < 4294967296
  | 0, st, acc, h => h
  | j + 1, none, acc, h => h
  | j + 1, some p, acc, h => lpN_lt hb j _ _ (fun x hx => by
    rcases List.mem_append.1 hx with hx | hx
    · exact h x hx
    · rw [List.mem_singleton.1 hx]
      have := rN_range hb (some p) 4
      omega)
end Go.Proofs.Ytjmhefkmpfkpbaa
namespace Go.Proofs.Ytjmhefkmpfkpbaa
open Go.ChangeShapes Go.WideShapes Go.ChangeAt Go.RowKit
set_option linter.unusedSimpArgs false
set_option linter.unusedVariables false
/-- The error of bytes that are no frame; 0: they are one. -/
def tkE (l : List Nat) : Int := if l.length < 9 then 40 else if l.drop (l.length - 4) ≠ told (crc (l.take (l.length - 4))) then 42 else if ¬ (l.getD 0 0 = 72 ∧ l.getD 1 0 = 1 ∧ l.getD 3 0 * 256 + l.getD 4 0 = l.length - 9 ∧ l.length - 9 ≤ 4096) then 41 else 0
theorem tkE_ok {l : List Nat} (h : tkE l = 0) : OkT l := by
  unfold tkE at h
  by_cases h1 : l.length < 9
  · rw [if_pos h1] at h; cases h
  rw [if_neg h1] at h
  by_cases h2 : l.drop (l.length - 4) ≠ told (crc (l.take (l.length - 4)))
  · rw [if_pos h2] at h; cases h
  rw [if_neg h2] at h
  by_cases h3 : ¬ (l.getD 0 0 = 72 ∧ l.getD 1 0 = 1 ∧ l.getD 3 0 * 256 + l.getD 4 0 = l.length - 9 ∧ l.length - 9 ≤ 4096)
  · rw [if_pos h3] at h; cases h
  exact ⟨by omega, Classical.not_not.1 h2, Classical.not_not.1 h3⟩
theorem ok_tkE {l : List Nat} (h : OkT l) : tkE l = 0 := by
  unfold tkE
  rw [if_neg (by have := h.1; omega), if_neg (by intro h2; exact h2 h.2.1), if_neg (by intro h2; exact h2 h.2.2)]
def TkP (w : World) (l : List Nat) (en : Ending) (w' : World) : Prop := ((tkE l ≠ 0 ∧ en = .returned (.tuple #[.int .u8 0, .slice none 0 0, .int .i64 (tkE l)])) ∨ (tkE l = 0 ∧ ∃ A n c, en = .returned (.tuple #[.int .u8 (l.getD 2 0 : Nat), .slice A n c, .int .i64 0]) ∧ n = (content l).length ∧ n ≤ c ∧ Reads w' w'.heap.size 1 A n (bytes (content l)))) ∧ Below w.heap.size w w'
theorem take_e (A : Option Addr) (n c : Nat) (l : List Nat) (hnl : l.length = n) (hm : n ≤ 10000) (hc : n ≤ c) (hl : ∀ b ∈ l, b < 256) (w : World) (hR : Reads w w.heap.size 1 A n (bytes l)) :
    Calls Try.prog 23 #[.slice A n c] w (TkP w l) := by
  rcases Nat.lt_or_ge n 9 with h9 | h9
  · have e : tkE l = 40 := by unfold tkE; rw [if_pos (by omega)]
    refine (take_short A n c h9 w).mono ?_
    rintro en w' ⟨rfl, rfl⟩
    exact ⟨.inl ⟨by rw [e]; decide, by rw [e]⟩, Below.refl _ _⟩
  · obtain ⟨ad, hA, _⟩ := hR.2 (by omega)
    subst hA
    by_cases hs : l.drop (n - 4) = told (crc (l.take (n - 4)))
    · by_cases hf : (l.getD 0 0 = 72 ∧ l.getD 1 0 = 1 ∧ l.getD 3 0 * 256 + l.getD 4 0 = n - 9 ∧ n - 9 ≤ 4096)
      · have e : tkE l = 0 := ok_tkE ⟨by omega, by rw [hnl]; exact hs, by rw [hnl]; exact hf⟩
        refine (take_ok ad n c l hnl h9 hm hc hl w hR hs hf).mono ?_
        rintro en w' ⟨v, rfl, ho, hb⟩
        obtain ⟨A', c', rfl, hc', hR'⟩ := ho.slice
        exact ⟨.inr ⟨e, A', _, c', rfl, rfl, hc', hR'⟩, hb⟩
      · have e : tkE l = 41 := by unfold tkE; rw [if_neg (by omega), if_neg (by rw [hnl]; intro h; exact h hs), if_pos (by rw [hnl]; exact hf)]
        refine (take_form ad n c l hnl h9 hm hc hl w hR hs hf).mono ?_
        rintro en w' ⟨rfl, hb⟩
        exact ⟨.inl ⟨by rw [e]; decide, by rw [e]⟩, hb⟩
    · have e : tkE l = 42 := by unfold tkE; rw [if_neg (by omega), if_pos (by rw [hnl]; exact hs)]
      refine (take_sum ad n c l hnl h9 hm hc hl w hR hs).mono ?_
      rintro en w' ⟨rfl, hb⟩
      exact ⟨.inl ⟨by rw [e]; decide, by rw [e]⟩, hb⟩
/-- What mail.Read answers. -/
def ReadP (b : List Nat) (w : World) (en : Ending) (w' : World) : Prop := Below w.heap.size w w' ∧ ∃ (om : MO) (E : Int), en = .returned (.tuple #[aggL om, .int .i64 E]) ∧ ownL w' w.heap.size om ∧ ((tkE b ≠ 0 ∧ E = tkE b ∧ om.x = zeroL) ∨ (tkE b = 0 ∧ ((E = 0 ∧ GoodM ((b.getD 2 0 : Nat) : Int) ((content b).map Int.ofNat) om.x) ∨ (E = 41 ∧ om.x = zeroL ∧ ∀ m, ¬ GoodM ((b.getD 2 0 : Nat) : Int) ((content b).map Int.ofNat) m))))
end Go.Proofs.Ytjmhefkmpfkpbaa
namespace Go.Proofs.Ytjmhefkmpfkpbaa
open Go.ChangeShapes Go.WideShapes Go.ChangeAt Go.RowKit
set_option linter.unusedSimpArgs false
set_option linter.unusedVariables false
theorem good_one {K : Int} {l : List Int} {m m' : Ml} (h : GoodM K l m) (h' : GoodM K l m') : m = m' := h.2.1.trans h'.2.1.symm
theorem ok_sm {m : Ml} (h : okL m) : smL m := by
  obtain ⟨m0, m1, m2, m3⟩ := mayM_parts h.2.1
  have l0 := mayd_len m0
  have l1 := mayd_len m1
  have l2 := mayd_len m2
  have l3 := mayd_len m3
  have d1 := (chkD_ok h.2.2.1).1
  have d2 := h.2.2.2.2.1.2
  exact ⟨⟨by omega, by omega, by omega, by omega⟩, by omega, by omega⟩
theorem zero_sm : smL zeroL := ⟨⟨by decide, by decide, by decide, by decide⟩, by decide, by decide⟩
end Go.Proofs.Ytjmhefkmpfkpbaa
namespace Go.Proofs.Ytjmhefkmpfkpbaa
open Go.ChangeShapes Go.WideShapes Go.ChangeAt Go.RowKit
theorem u8_nat {a : Int} (h : (Lit.int .u8 a).wf = true) : ∃ x : Nat, x < 256 ∧ a = x := by
  have hb : 0 ≤ a ∧ a ≤ 255 := by simpa [Lit.wf, IntKind.min, IntKind.max, IntKind.signed, IntKind.bits] using h
  exact ⟨a.toNat, by omega, by omega⟩
section
variable {H : Type} {enc : TypeId × Value → H} {P : Program} {w : World}
theorem open_bytes {r : Reach} {b0 : Nat} {t e : TypeId} {v : Value} {d : DataW H} {p : List MemPlace} (ht : P.underlying t = some (.slice e)) (he : P.underlying e = some (.int .u8)) (hc : P.cellsOf e = 1)
    (hv : Value.okWide P w r b0 t v) (h : DataW.Trod enc P w 0 (fun _ => true) true t v d p) :
    ∃ (A : Option Addr) (n c : Nat) (l : List Nat), v = .slice A n c ∧ n ≤ c ∧ c ≤ maxLen ∧ l.length = n ∧ (∀ b ∈ l, b < 256) ∧ Reads w w.heap.size 1 A n (bytes l) := by
  obtain ⟨A, n, c, zs, rfl, h1, h2, h3, h4, h5⟩ := open_reads ht he hc hv h
  refine ⟨A, n, c, zs.map Int.toNat, rfl, h1, h2, by simpa using h3, ?_, ?_⟩
  · intro b hb
    simp only [List.mem_map] at hb
    obtain ⟨z, hz, rfl⟩ := hb
    obtain ⟨x, hx, rfl⟩ := u8_nat (h5 z hz)
    simpa using hx
  · have e : bytes (zs.map Int.toNat) = zs.map (Value.int .u8) := by
      unfold bytes
      rw [List.map_map]
      apply List.map_congr_left
      intro z hz
      obtain ⟨x, hx, rfl⟩ := u8_nat (h5 z hz)
      simp
    rw [e]
    exact h4
end
end Go.Proofs.Ytjmhefkmpfkpbaa
namespace Go.Proofs.Ytjmhefkmpfkpbaa
open Go.ChangeShapes Go.WideShapes Go.ChangeAt Go.RowKit
set_option linter.unusedSimpArgs false
set_option linter.unusedVariables false
theorem half_odd (x : Nat) (hx : x < 4294967296) (h : x % 2 = 1) : bits .xor .u32 ((x : Int) / 2) 3988292384 = (step x : Nat) := by
  have e : ((x : Int) / 2) = ((x / 2 : Nat) : Int) := by omega
  rw [e]
  have := u32_xor_nat (x / 2) 3988292384 (by omega) (by omega)
  unfold step
  rw [if_pos h, ← this]
  rfl
theorem half_even (x : Nat) (h : x % 2 ≠ 1) : ((x : Int) / 2) = (step x : Nat) := by
  unfold step
  rw [if_neg h, Nat.xor_zero]
  omega
set_option maxHeartbeats 4000000 in
theorem rsum_n (A : Option Addr) (n c B : Nat) (l : List Nat) (hn : l.length = n) (hl : ∀ b ∈ l, b < 256) (hm : n ≤ 1000000) (w : World) (hR : Reads w B 1 A n (bytes l)) :
    Calls Try.prog 70 #[.slice A n c] w fun en w' => en = .returned (.int .u32 (crc l : Nat)) ∧ w = w' := by
  go_enter Try.func70, Try.ntmps70
  go_wp2
  go_loop [3, 4] (fun u i => ∃ k : Nat, k ≤ n ∧ i = .int .i64 k ∧ u = .int .u32 (word 4294967295 (l.take k) : Nat)) (fun _ i => n - (intOf i).toNat)
  case atStart => exact ⟨0, by omega, rfl, rfl⟩
  case round =>
    obtain ⟨k, hk, rfl, rfl⟩ := hrel
    have hw := word_lt (l := l.take k) (w := 4294967295) (by omega) (fun b hb => hl b (List.mem_of_mem_take hb))
    by_cases hlt : k < n
    · obtain ⟨ad, u, rfl, hab, hu, cA⟩ := hR.at_ hlt
      obtain ⟨b, hb⟩ : ∃ b, b = l[k]'(by omega) := ⟨_, rfl⟩
      have hb2 : b < 256 := by rw [hb]; exact hl _ (List.getElem_mem _)
      have hu' : u = .int .u8 (b : Int) := by
        rw [List.getElem?_map, List.getElem?_eq_getElem (by omega)] at hu
        simp only [Option.map_some, Option.some.injEq] at hu
        rw [← hu, hb]
      subst hu'
      have hnx := Lib.hid (show word 4294967295 (l.take (k + 1)) = feed (word 4294967295 (l.take k)) b by rw [List.take_succ_eq_append_getElem (by omega), word_snoc, hb])
      clear hu hb
      generalize word 4294967295 (l.take k) = v at *
      have hx : v ^^^ b < 4294967296 := Nat.xor_lt_two_pow (n := 32) hw (by omega)
      have e0 := x32 v b hw (by omega)
      have E1 := Lib.hid (show feed v b = steps 8 (v ^^^ b) from rfl)
      go_wp2
      go_loop [3, 5] (fun u i => ∃ j : Nat, j ≤ 8 ∧ i = .int .i64 j ∧ u = .int .u32 (steps j (v ^^^ b) : Nat)) (fun _ i => 8 - (intOf i).toNat)
      case atStart => exact ⟨0, by omega, rfl, by first | rfl | (rw [e0]; rfl)⟩
      case round =>
        clear e0
        obtain ⟨j, hj, rfl, rfl⟩ := hrel
        have hs := steps_lt hx j
        have hst := Lib.hid (steps_succ j (v ^^^ b))
        by_cases hj8 : j < 8
        · have hho := Lib.hid (half_odd (steps j (v ^^^ b)) hs)
          have hhe := Lib.hid (half_even (steps j (v ^^^ b)))
          generalize steps j (v ^^^ b) = x at *
          rcases Nat.mod_two_eq_zero_or_one x with h0 | h0
          · have y1 : ((x : Int).tmod 2 == 1) = false := by rw [Int.tmod_eq_emod_of_nonneg (by omega)]; simp; omega
            have y2 := Lib.hid (hhe.out (by omega))
            go_wp2
            go_round
            case rel => exact ⟨j + 1, by omega, by go_num, by rw [hst.out, ← y2.out]⟩
            case measure => simp [intOf]; omega
          · have y1 : ((x : Int).tmod 2 == 1) = true := by rw [Int.tmod_eq_emod_of_nonneg (by omega)]; simp; omega
            have y2 := Lib.hid (hho.out h0)
            go_wp2
            go_round
            case rel => exact ⟨j + 1, by omega, by go_num, by rw [hst.out, ← y2.out]⟩
            case measure => simp [intOf]; omega
        · have he := Lib.hid (show steps j (v ^^^ b) = feed v b by rw [E1.out, show j = 8 by omega])
          generalize steps j (v ^^^ b) = x at *
          go_wp2
          go_round
          case rel => exact ⟨k + 1, by omega, by go_num, by rw [hnx.out, he.out]⟩
          case measure => simp [intOf]; omega
    · have he := Lib.hid (show crc l = 4294967295 - word 4294967295 (l.take k) by unfold crc; rw [List.take_of_length_le (by omega)])
      generalize word 4294967295 (l.take k) = x at *
      have hnv := Lib.hid (not_val x hw)
      go_wp2
      go_ret
      exact ⟨ret_int (by rw [he.out, ← ones_xor x hw, Nat.xor_comm]; exact u32_xor_nat x 4294967295 hw (by omega)), rfl⟩
end Go.Proofs.Ytjmhefkmpfkpbaa
namespace Go.Proofs.Ytjmhefkmpfkpbaa
open Go.ChangeShapes Go.WideShapes Go.ChangeAt Go.RowKit
set_option linter.unusedSimpArgs false
set_option linter.unusedVariables false
theorem infoB8 : (Try.prog.info? 5).map (fun i => (i.zero, i.size, i.bytes)) = some (some (.int .u8 0), 1, 1) := by kernel_rfl
set_option maxHeartbeats 2000000 in
theorem rframed (kind : Nat) (hk : kind < 256) (A : Option Addr) (n c : Nat) (l : List Nat) (hn : l.length = n) (hl : ∀ b ∈ l, b < 256) (hm : n ≤ 4096) (w : World) (hR : Reads w w.heap.size 1 A n (bytes l)) :
    Calls Try.prog 65 #[.int .u8 kind, .slice A n c] w fun en w' => ∃ v, en = .returned v ∧ Owns w w' v (framed kind l) ∧ Below w.heap.size w w' := by
  obtain ⟨i0, hi0, hz0, hz1, hz2⟩ := info_parts infoB8
  have hx := headed_lt (kind := kind) hk (by omega) hl
  have hc := crc_lt (headed kind l)
  have hlen := Lib.hid (headed_len kind l)
  have hb := Lib.hid (headed_bytes kind l)
  have HN := Lib.hid hn
  have t1 : (n : Int).tmod 256 = (n : Int) % 256 := Int.tmod_eq_emod_of_nonneg (by omega)
  have t2 : ((n : Int) / 256) % 256 = (n : Int) / 256 := by omega
  have t3 : (n : Int).tdiv 256 = (n : Int) / 256 := Int.tdiv_eq_ediv_of_nonneg (by omega)
  obtain ⟨s, hs⟩ : ∃ s, crc (headed kind l) = s := ⟨_, rfl⟩
  rw [hs] at hc
  have t4 : ((s : Int) / 16777216) % 256 = (s : Int) / 16777216 := by omega
  have HS := Lib.hid hs
  clear hs hn
  go_enter Try.func65, Try.ntmps65
  go_wp2_with (first
    | (at_builtin; refine wpList_append_any _ rfl (.tmp 16) (.tmp 17) _ rfl w.heap.size 5 i0 _ 1 1 Try.underlying34 hi0 hz0 hz1 hz2 rfl (by omega) (.slice (some ⟨w.heap.size, 0, none⟩) 5 5) 5 [.int .u8 72, .int .u8 1, .int .u8 (kind : Int), .int .u8 ((n : Int) / 256), .int .u8 ((n : Int) % 256)] rfl (owns_new w w.heap.size (Nat.le_refl _) _ 5 5 rfl (by unfold maxLen; omega)) w.heap.size A n c (bytes l) rfl (hR.alloc (Nat.le_refl _) _) (bytes_one l) (by unfold maxLen; omega) (by omega) (by simp) ?_; intro v1 w1 hown1 hg1 hat1; obtain ⟨g1, cap1, rfl, hg1b, hg1l⟩ := hown1.form (by omega); have hown1 : w1.ownsRow w.heap.size 5 1 (.slice (some ⟨g1, 0, none⟩) (5 + n) cap1) (5 + n) (bytes (headed kind l)) := (by rw [hb.out, HN.out]; exact hown1); have hBel1 : Below w.heap.size w w1 := ((Below.refl _ w).alloc (Nat.le_refl _) _).grown hg1 (by simp) (by intro k hk; simp [Value.ownBlock] at hk; omega))
    | (go_at_call 70; refine (rsum_n (some ⟨g1, 0, none⟩) (5 + n) cap1 w1.heap.size (headed kind l) (by rw [hlen.out, HN.out]) hx (by omega) _ (Reads.of_own hown1)).mono ?_; rintro en w2 ⟨rfl, rfl⟩; rw [HS.out])
    | (at_builtin; refine wpList_append_any _ rfl (.tmp 21) (.tmp 33) _ rfl w.heap.size 5 i0 _ 1 1 Try.underlying34 hi0 hz0 hz1 hz2 rfl (by omega) (.slice (some ⟨g1, 0, none⟩) (5 + n) cap1) (5 + n) (bytes (headed kind l)) rfl (hown1.alloc _) (w1.heap.size + 1) (some ⟨w1.heap.size, 0, none⟩) 4 4 [.int .u8 ((s : Int) % 256), .int .u8 ((s : Int) / 256 % 256), .int .u8 ((s : Int) / 65536 % 256), .int .u8 ((s : Int) / 16777216)] rfl (reads_new w1 _ 5 4 rfl) (by intro u hu; simp at hu; rcases hu with rfl | rfl | rfl | rfl <;> rfl) (by unfold maxLen; omega) (by omega) (by have := hBel1.size; simp; omega) ?_; intro v2 w2 hown2 hg2 hat2))
  go_ret
  refine ⟨v2, rfl, ?_, (hBel1.alloc hBel1.size _).grown hg2 (by have := hBel1.size; simp; omega) (by intro k hk; simp [Value.ownBlock] at hk; omega)⟩
  have hw := hown2
  rw [show 5 + n + 4 = (framed kind l).length by rw [framed_len, HN.out], show bytes (headed kind l) ++ [.int .u8 ((s : Int) % 256), .int .u8 ((s : Int) / 256 % 256), .int .u8 ((s : Int) / 65536 % 256), .int .u8 ((s : Int) / 16777216)] = bytes (framed kind l) by rw [← told_bytes, framed, bytes, bytes, bytes, List.map_append, HS.out]] at hw
  exact hw
end Go.Proofs.Ytjmhefkmpfkpbaa
namespace Go.Proofs.Ytjmhefkmpfkpbaa
open Go.ChangeShapes Go.WideShapes Go.ChangeAt Go.RowKit
set_option linter.unusedSimpArgs false
set_option linter.unusedVariables false
theorem drop_four {l : List Nat} {n : Nat} (hn : l.length = n) (h9 : 9 ≤ n) : l.drop (n - 4) = [l.getD (n - 4) 0, l.getD (n - 3) 0, l.getD (n - 2) 0, l.getD (n - 1) 0] := by
  have hlen : (l.drop (n - 4)).length = 4 := by simp; omega
  apply List.ext_getElem
  · simpa using hlen
  · intro i h1 h2
    have hi : i < 4 := by simpa using h2
    rw [List.getElem_drop]
    have e : ∀ k, k < n → ∀ h : k < l.length, l[k] = l.getD k 0 := fun k _ h => by simp [List.getD_eq_getElem?_getD, List.getElem?_eq_getElem h]
    match i, hi with
    | 0, _ => exact e _ (by omega) _
    | 1, _ => simp only [List.getElem_cons_succ, List.getElem_cons_zero]; rw [e _ (by omega) _, show n - 4 + 1 = n - 3 by omega]
    | 2, _ => simp only [List.getElem_cons_succ, List.getElem_cons_zero]; rw [e _ (by omega) _, show n - 4 + 2 = n - 2 by omega]
    | 3, _ => simp only [List.getElem_cons_succ, List.getElem_cons_zero]; rw [e _ (by omega) _, show n - 4 + 3 = n - 1 by omega]
theorem told_iff {l : List Nat} {n s : Nat} (hn : l.length = n) (h9 : 9 ≤ n) : l.drop (n - 4) = told s ↔ l.getD (n - 4) 0 = s % 256 ∧ l.getD (n - 3) 0 = s / 256 % 256 ∧ l.getD (n - 2) 0 = s / 65536 % 256 ∧ l.getD (n - 1) 0 = s / 16777216 := by
  rw [drop_four hn h9]
  simp [told]
set_option maxHeartbeats 2000000 in
theorem rtake_short (A : Option Addr) (n c : Nat) (hn : n < 9) (w : World) :
    Calls Try.prog 35 #[.slice A n c] w fun en w' => en = .returned (.tuple #[.int .u8 0, .slice none 0 0, .int .i64 40]) ∧ w = w' := by
  have h1 : decide ((n : Int) < 9) = true := by simp; omega
  go_enter Try.func35, Try.ntmps35
  go_wp2
  go_ret3
  exact ⟨rfl, rfl⟩
set_option maxHeartbeats 4000000 in
theorem rtake_sum (ad : Addr) (n c : Nat) (l : List Nat) (hnl : l.length = n) (hn : 9 ≤ n) (hm : n ≤ 10000) (hc : n ≤ c) (hl : ∀ b ∈ l, b < 256) (w : World) (hR : Reads w w.heap.size 1 (some ad) n (bytes l)) (hsu : l.drop (n - 4) ≠ told (crc (l.take (n - 4)))) :
    Calls Try.prog 35 #[.slice (some ad) n c] w fun en w' => en = .returned (.tuple #[.int .u8 0, .slice none 0 0, .int .i64 42]) ∧ Below w.heap.size w w' := by
  have h1 : decide ((n : Int) < 9) = false := by simp; omega
  have e3 : IntKind.i64.wrap ((n : Int) - 4) = (n : Int) - 4 := IntWalk.i64_in _ (by omega)
  have e5 : IntKind.i64.wrap ((n : Int) - 3) = (n : Int) - 3 := IntWalk.i64_in _ (by omega)
  have e7 : IntKind.i64.wrap ((n : Int) - 2) = (n : Int) - 2 := IntWalk.i64_in _ (by omega)
  have e8 : IntKind.i64.wrap ((n : Int) - 1) = (n : Int) - 1 := IntWalk.i64_in _ (by omega)
  have e9 : IntKind.i64.wrap ((n : Int) - 9) = (n : Int) - 9 := IntWalk.i64_in _ (by omega)
  have p4 : ((n : Int) - 4).toNat = n - 4 := by omega
  have p3 : ((n : Int) - 3).toNat = n - 3 := by omega
  have p2 : ((n : Int) - 2).toNat = n - 2 := by omega
  have p1 : ((n : Int) - 1).toNat = n - 1 := by omega
  have q4 : (4 : Int) ≤ n := by omega
  have q3 : (3 : Int) ≤ n := by omega
  have q2 : (2 : Int) ≤ n := by omega
  have q1 : (1 : Int) ≤ n := by omega
  have r4 : ((n : Int) - 4) ≤ c := by omega
  have hl2 : ∀ b ∈ l.take (n - 4), b < 256 := fun b hb => hl b (List.mem_of_mem_take hb)
  have hcr := crc_lt (l.take (n - 4))
  have hti := told_iff (s := crc (l.take (n - 4))) hnl hn
  have hRt := hR.take_ (k := n - 4) (by omega)
  rw [show (bytes l).take (n - 4) = bytes (l.take (n - 4)) from (List.map_take ..).symm] at hRt
  have hlt : (l.take (n - 4)).length = n - 4 := by simp; omega
  have hcell : ∀ i, i < n → w.cell? (ad.add i) = some (.int .u8 ((l.getD i 0 : Nat) : Int)) := fun i hi => by
    obtain ⟨ad', e, hb, hx⟩ := hR.2 (by omega)
    injection e with e
    subst e
    exact hx i _ (by rw [List.getElem?_map, List.getElem?_eq_getElem (by omega)]; simp [List.getD_eq_getElem?_getD, List.getElem?_eq_getElem (show i < l.length by omega)])
  have hlt8 : ∀ i, i < n → l.getD i 0 < 256 := fun i hi => by rw [List.getD_eq_getElem?_getD, List.getElem?_eq_getElem (by omega)]; exact hl _ (List.getElem_mem _)
  have k4 := hcell (n - 4) (by omega)
  have k3 := hcell (n - 3) (by omega)
  have k2 := hcell (n - 2) (by omega)
  have k1 := hcell (n - 1) (by omega)
  obtain ⟨s, hs⟩ : ∃ s, crc (l.take (n - 4)) = s := ⟨_, rfl⟩
  rw [hs] at hti hcr
  have t4 : ((s : Int) / 16777216) % 256 = (s : Int) / 16777216 := by omega
  rw [hs] at hsu
  rw [Ne, hti] at hsu
  clear hcell hlt8 hti
  generalize l.getD (n - 4) 0 = t0 at *
  generalize l.getD (n - 3) 0 = t1 at *
  generalize l.getD (n - 2) 0 = t2 at *
  generalize l.getD (n - 1) 0 = t3 at *
  have hcase : (((t0 : Int) != (s : Int) % 256) = true) ∨ ((((t0 : Int) != (s : Int) % 256) = false) ∧ (((t1 : Int) != (s : Int) / 256 % 256) = true)) ∨ ((((t0 : Int) != (s : Int) % 256) = false) ∧ (((t1 : Int) != (s : Int) / 256 % 256) = false) ∧ (((t2 : Int) != (s : Int) / 65536 % 256) = true)) ∨ ((((t0 : Int) != (s : Int) % 256) = false) ∧ (((t1 : Int) != (s : Int) / 256 % 256) = false) ∧ (((t2 : Int) != (s : Int) / 65536 % 256) = false) ∧ (((t3 : Int) != (s : Int) / 16777216) = true)) := by
    simp only [bne_iff_ne, bne_eq_false_iff_eq, ne_eq]
    omega
  clear hsu
  rcases hcase with z0 | ⟨z0, z1⟩ | ⟨z0, z1, z2⟩ | ⟨z0, z1, z2, z3⟩
  all_goals
    go_enter Try.func35, Try.ntmps35
    go_wp2_with fail
    refine (rsum_n (some ad) (n - 4) c w.heap.size (l.take (n - 4)) hlt hl2 (by omega) _ hRt).mono ?_
    rintro en w2 ⟨rfl, rfl⟩
    rw [hs]
    clear hRt hR hs hlt hl2
    go_wp2
    go_ret3
    exact ⟨rfl, Below.refl _ _⟩
set_option maxHeartbeats 4000000 in
theorem rtake_form (ad : Addr) (n c : Nat) (l : List Nat) (hnl : l.length = n) (hn : 9 ≤ n) (hm : n ≤ 10000) (hc : n ≤ c) (hl : ∀ b ∈ l, b < 256) (w : World) (hR : Reads w w.heap.size 1 (some ad) n (bytes l)) (hsu : l.drop (n - 4) = told (crc (l.take (n - 4)))) (hf : ¬ (l.getD 0 0 = 72 ∧ l.getD 1 0 = 1 ∧ l.getD 3 0 * 256 + l.getD 4 0 = n - 9 ∧ n - 9 ≤ 4096)) :
    Calls Try.prog 35 #[.slice (some ad) n c] w fun en w' => en = .returned (.tuple #[.int .u8 0, .slice none 0 0, .int .i64 41]) ∧ Below w.heap.size w w' := by
  have h1 : decide ((n : Int) < 9) = false := by simp; omega
  have e3 : IntKind.i64.wrap ((n : Int) - 4) = (n : Int) - 4 := IntWalk.i64_in _ (by omega)
  have e5 : IntKind.i64.wrap ((n : Int) - 3) = (n : Int) - 3 := IntWalk.i64_in _ (by omega)
  have e7 : IntKind.i64.wrap ((n : Int) - 2) = (n : Int) - 2 := IntWalk.i64_in _ (by omega)
  have e8 : IntKind.i64.wrap ((n : Int) - 1) = (n : Int) - 1 := IntWalk.i64_in _ (by omega)
  have e9 : IntKind.i64.wrap ((n : Int) - 9) = (n : Int) - 9 := IntWalk.i64_in _ (by omega)
  have p4 : ((n : Int) - 4).toNat = n - 4 := by omega
  have p3 : ((n : Int) - 3).toNat = n - 3 := by omega
  have p2 : ((n : Int) - 2).toNat = n - 2 := by omega
  have p1 : ((n : Int) - 1).toNat = n - 1 := by omega
  have q4 : (4 : Int) ≤ n := by omega
  have q3 : (3 : Int) ≤ n := by omega
  have q2 : (2 : Int) ≤ n := by omega
  have q1 : (1 : Int) ≤ n := by omega
  have r4 : ((n : Int) - 4) ≤ c := by omega
  have hl2 : ∀ b ∈ l.take (n - 4), b < 256 := fun b hb => hl b (List.mem_of_mem_take hb)
  have hcr := crc_lt (l.take (n - 4))
  have hti := told_iff (s := crc (l.take (n - 4))) hnl hn
  have hRt := hR.take_ (k := n - 4) (by omega)
  rw [show (bytes l).take (n - 4) = bytes (l.take (n - 4)) from (List.map_take ..).symm] at hRt
  have hlt : (l.take (n - 4)).length = n - 4 := by simp; omega
  have hcell : ∀ i, i < n → w.cell? (ad.add i) = some (.int .u8 ((l.getD i 0 : Nat) : Int)) := fun i hi => by
    obtain ⟨ad', e, hb, hx⟩ := hR.2 (by omega)
    injection e with e
    subst e
    exact hx i _ (by rw [List.getElem?_map, List.getElem?_eq_getElem (by omega)]; simp [List.getD_eq_getElem?_getD, List.getElem?_eq_getElem (show i < l.length by omega)])
  have hlt8 : ∀ i, i < n → l.getD i 0 < 256 := fun i hi => by rw [List.getD_eq_getElem?_getD, List.getElem?_eq_getElem (by omega)]; exact hl _ (List.getElem_mem _)
  have k4 := hcell (n - 4) (by omega)
  have k3 := hcell (n - 3) (by omega)
  have k2 := hcell (n - 2) (by omega)
  have k1 := hcell (n - 1) (by omega)
  obtain ⟨s, hs⟩ : ∃ s, crc (l.take (n - 4)) = s := ⟨_, rfl⟩
  rw [hs] at hti hcr
  have t4 : ((s : Int) / 16777216) % 256 = (s : Int) / 16777216 := by omega
  rw [hs] at hsu
  rw [hti] at hsu
  obtain ⟨y0, y1, y2, y3⟩ := hsu
  have c0 := hcell 0 (by omega)
  rw [Addr.add_zero'] at c0
  have c1 := hcell 1 (by omega)
  rw [show ad.add 1 = ⟨ad.block, ad.off + 1, none⟩ from rfl] at c1
  have c2 := hcell 2 (by omega)
  rw [show ad.add 2 = ⟨ad.block, ad.off + 2, none⟩ from rfl] at c2
  have c3 := hcell 3 (by omega)
  rw [show ad.add 3 = ⟨ad.block, ad.off + 3, none⟩ from rfl] at c3
  have c4 := hcell 4 (by omega)
  rw [show ad.add 4 = ⟨ad.block, ad.off + 4, none⟩ from rfl] at c4
  have hb3 := hlt8 3 (by omega)
  have hb4 := hlt8 4 (by omega)
  have i0 : (0 : Int) < n := by omega
  have i1 : (1 : Int) < n := by omega
  have i2 : (2 : Int) < n := by omega
  have i3 : (3 : Int) < n := by omega
  have i4 : (4 : Int) < n := by omega
  clear hcell hlt8 hti
  generalize l.getD (n - 4) 0 = t0 at *
  generalize l.getD (n - 3) 0 = t1 at *
  generalize l.getD (n - 2) 0 = t2 at *
  generalize l.getD (n - 1) 0 = t3 at *
  have z0 : ((t0 : Int) != (s : Int) % 256) = false := by simp; omega
  have z1 : ((t1 : Int) != (s : Int) / 256 % 256) = false := by simp; omega
  have z2 : ((t2 : Int) != (s : Int) / 65536 % 256) = false := by simp; omega
  have z3 : ((t3 : Int) != (s : Int) / 16777216) = false := by simp; omega
  clear y0 y1 y2 y3
  generalize l.getD 0 0 = b0 at *
  generalize l.getD 1 0 = b1 at *
  generalize hg2 : l.getD 2 0 = b2 at *
  generalize l.getD 3 0 = b3 at *
  generalize l.getD 4 0 = b4 at *
  have m1 : IntKind.i64.wrap (256 * (b3 : Int)) = 256 * (b3 : Int) := IntWalk.i64_in _ (by omega)
  have m2 : IntKind.i64.wrap (256 * (b3 : Int) + (b4 : Int)) = 256 * (b3 : Int) + (b4 : Int) := IntWalk.i64_in _ (by omega)
  have hcase : (((b0 : Int) != 72) = true) ∨ ((((b0 : Int) != 72) = false) ∧ (((b1 : Int) != 1) = true)) ∨ ((((b0 : Int) != 72) = false) ∧ (((b1 : Int) != 1) = false) ∧ ((256 * (b3 : Int) + (b4 : Int) != (n : Int) - 9) = true)) ∨ ((((b0 : Int) != 72) = false) ∧ (((b1 : Int) != 1) = false) ∧ ((256 * (b3 : Int) + (b4 : Int) != (n : Int) - 9) = false) ∧ (decide ((4096 : Int) < (n : Int) - 9) = true)) := by
    simp only [bne_iff_ne, bne_eq_false_iff_eq, ne_eq, decide_eq_true_eq]
    omega
  clear hf
  rcases hcase with x0 | ⟨x0, x1⟩ | ⟨x0, x1, x2⟩ | ⟨x0, x1, x2, x3⟩
  all_goals
    go_enter Try.func35, Try.ntmps35
    go_wp2_with fail
    refine (rsum_n (some ad) (n - 4) c w.heap.size (l.take (n - 4)) hlt hl2 (by omega) _ hRt).mono ?_
    rintro en w2 ⟨rfl, rfl⟩
    rw [hs]
    clear hRt hR hs hlt hl2
    go_wp2_with fail
    go_quiet (fail)
    go_wp2
    go_ret3
    first | exact ⟨rfl, Below.drew (Below.refl _ _)⟩ | exact ⟨rfl, below_drewN (Below.refl _ _) _⟩
end Go.Proofs.Ytjmhefkmpfkpbaa
