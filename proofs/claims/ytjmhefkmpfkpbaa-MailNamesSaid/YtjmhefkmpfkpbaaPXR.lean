/- Mail: what mail.Read answers | Mail: lists that are read | Mail: frame.Take told by its error; mail.Read of what is no frame -/
import Derived.Deep.RegionHeld3
import Derived.Test.YtjmhefkmpfkpbaaPW
import Derived.Test.YtjmhefkmpfkpbaaPST
import Derived.Test.YtjmhefkmpfkpbaaBackP
namespace Go.Proofs.Ytjmhefkmpfkpbaa
open Go.ChangeShapes Go.WideShapes Go.ChangeAt Go.RowKit
set_option linter.unusedSimpArgs false
set_option linter.unusedVariables false
theorem results_row_slot {P : Program} {fn : Func} {p e : Tmp} {ty : TypeId} (h : fn.results = #[.cell p ty, .tmp e]) (tmps : Array Value) (w : World) (g : Nat) (t : TypeId) (cs : Array Value) (fr : Nat × Nat) (d : TypeDesc)
    (hp : tmps.getD p undef = .pointer (some ⟨g, 0, none⟩)) (hg : w.heap[g]? = some (.cells cs t fr))
    (hu : P.underlying ty = some d) (hd : (match d with | .struct _ | .array _ _ => true | _ => false) = true) (hi : (P.info? ty).map (·.size) = some cs.size) :
    (results fn tmps).run P w = .ok (.tuple #[.agg cs, tmps.getD e undef]) w := by
  have hp' : tmps[p]?.getD undef = .pointer (some ⟨g, 0, none⟩) := by simpa using hp
  simp [results, h, hp', asAddr, run_loadVar_row w g t ty cs fr d hg hu hd hi]
theorem OwnR.only {w w' : World} {base n g : Nat} {e : TypeId} {A : Option Addr} {xs : List Value} (h : OwnR w base e A n xs) (ho : Only g w w') (hg : g < base) : OwnR w' base e A n xs :=
  ⟨h.1, fun h0 => by obtain ⟨k, cur, hA, hk, hh, ht⟩ := h.2 h0; exact ⟨k, cur, hA, hk, ho.blk hh (by omega), ht⟩⟩
theorem OwnR.setRow {w : World} {base n g : Nat} {e : TypeId} {A : Option Addr} {xs : List Value} (h : OwnR w base e A n xs) (hg : g < base) (cs : Array Value) : OwnR (w.setRow g cs) base e A n xs :=
  ⟨h.1, fun h0 => by obtain ⟨k, cur, hA, hk, hh, ht⟩ := h.2 h0; exact ⟨k, cur, hA, hk, hh.setRow_far (by omega) cs, ht⟩⟩
theorem Rdb.setRow {w : World} {g n c : Nat} {A : Option Addr} {st : Option Nat} (h : Rdb w g A n c st) {k : Nat} (hk : g ≠ k) (cs : Array Value) : Rdb (w.setRow k cs) g A n c st := h.keep (setRow_other _ _ _ _ hk)
def zeroL : Ml := ⟨0, 0, 0, 0, 0, 0, zM, false, [], false, 0, 0, []⟩
def zeroO : MO := ⟨zeroL, none, 0, none, 0, none, 0, none, 0, none, 0, none, 0⟩
/-- A mail whose rows are the call's own. -/
def ownL (w : World) (base : Nat) (o : MO) : Prop := ((o.x.give.s.ls.length ≤ o.c0 ∧ OwnR w base 52 o.X0 o.x.give.s.ls.length (ints .u32 o.x.give.s.ls)) ∧ (o.x.give.w.ls.length ≤ o.c1 ∧ OwnR w base 52 o.X1 o.x.give.w.ls.length (ints .u32 o.x.give.w.ls)) ∧ (o.x.give.c.ls.length ≤ o.c2 ∧ OwnR w base 52 o.X2 o.x.give.c.ls.length (ints .u32 o.x.give.c.ls)) ∧ (o.x.give.a.ls.length ≤ o.c3 ∧ OwnR w base 52 o.X3 o.x.give.a.ls.length (ints .u32 o.x.give.a.ls))) ∧ w.ownsRow base 73 2 (.slice o.D o.x.ds.length o.dc) o.x.ds.length (T2 o.x.ds) ∧ w.ownsRow base 52 1 (.slice o.L o.x.ls.length o.lc) o.x.ls.length (ints .u32 o.x.ls)
theorem own_nil {w : World} {base size c : Nat} {e : TypeId} : w.ownsRow base e size (.slice none 0 0) 0 [] := ⟨by simp, .inl ⟨rfl, rfl⟩⟩
theorem ownL_zero (w : World) (base : Nat) : ownL w base zeroO := ⟨⟨⟨Nat.le_refl _, OwnR.none_⟩, ⟨Nat.le_refl _, OwnR.none_⟩, ⟨Nat.le_refl _, OwnR.none_⟩, ⟨Nat.le_refl _, OwnR.none_⟩⟩, own_nil (c := 0), own_nil (c := 0)⟩
theorem ownL.rd {w : World} {base : Nat} {o : MO} (h : ownL w base o) : rdL w w.heap.size o :=
  ⟨⟨⟨rfl, rfl, rfl, h.1.1.1, h.1.1.2.reads⟩, ⟨rfl, rfl, rfl, h.1.2.1.1, h.1.2.1.2.reads⟩, ⟨rfl, rfl, rfl, h.1.2.2.1.1, h.1.2.2.1.2.reads⟩, ⟨rfl, rfl, rfl, h.1.2.2.2.1, h.1.2.2.2.2.reads⟩⟩, ⟨rfl, Reads.of_own h.2.1⟩, Reads.of_own h.2.2⟩
/-- What is answered of a content of a kind. -/
def RdP (K : Int) (l : List Int) (w : World) (en : Ending) (w' : World) : Prop := Below w.heap.size w w' ∧ ∃ (om : MO) (E : Int), en = .returned (.tuple #[aggL om, .int .i64 E]) ∧ ownL w' w.heap.size om ∧ ((E = 0 ∧ GoodM K l om.x) ∨ (E = 41 ∧ om.x = zeroL ∧ ∀ m, ¬ GoodM K l m))
theorem ownL.below {w w' : World} {base : Nat} {o : MO} (h : ownL w base o) (hb : Below w.heap.size w w') : ownL w' base o := ⟨⟨⟨h.1.1.1, h.1.1.2.below hb⟩, ⟨h.1.2.1.1, h.1.2.1.2.below hb⟩, ⟨h.1.2.2.1.1, h.1.2.2.1.2.below hb⟩, ⟨h.1.2.2.2.1, h.1.2.2.2.2.below hb⟩⟩, own_below h.2.1 hb, own_below h.2.2 hb⟩
theorem ownL.base {w : World} {base b : Nat} {o : MO} (h : ownL w base o) (hb : b + 1 ≤ base) : ownL w (b + 1) o := ⟨⟨⟨h.1.1.1, h.1.1.2.base_le hb⟩, ⟨h.1.2.1.1, h.1.2.1.2.base_le hb⟩, ⟨h.1.2.2.1.1, h.1.2.2.1.2.base_le hb⟩, ⟨h.1.2.2.2.1, h.1.2.2.2.2.base_le hb⟩⟩, own_mono h.2.1 hb, own_mono h.2.2 hb⟩
theorem own_setRow {w : World} {base size n k : Nat} {e : TypeId} {v : Value} {xs : List Value} (h : w.ownsRow base e size v n xs) (hk : k < base) (cs : Array Value) : (w.setRow k cs).ownsRow base e size v n xs := by
  refine ⟨h.1, ?_⟩
  rcases h.2 with hn | ⟨g, c, cur, rfl, hb, hh, r⟩
  · exact .inl hn
  · exact .inr ⟨g, c, cur, rfl, hb, (show Blk w g e cur from hh).setRow_far (by omega) cs, r⟩
theorem ownL.setRow {w : World} {b : Nat} {o : MO} (h : ownL w (b + 1) o) (_ : b < b + 1) (_ : b ≤ b + 1) (cs : Array Value) : ownL (w.setRow b cs) b o := ⟨⟨⟨h.1.1.1, (h.1.1.2.setRow (by omega) cs).base_le (by omega)⟩, ⟨h.1.2.1.1, (h.1.2.1.2.setRow (by omega) cs).base_le (by omega)⟩, ⟨h.1.2.2.1.1, (h.1.2.2.1.2.setRow (by omega) cs).base_le (by omega)⟩, ⟨h.1.2.2.2.1, (h.1.2.2.2.2.setRow (by omega) cs).base_le (by omega)⟩⟩, own_mono (own_setRow h.2.1 (by omega) cs) (by omega), own_mono (own_setRow h.2.2 (by omega) cs) (by omega)⟩
end Go.Proofs.Ytjmhefkmpfkpbaa
namespace Go.Proofs.Ytjmhefkmpfkpbaa
open Go.ChangeShapes Go.WideShapes Go.ChangeAt Go.RowKit
set_option linter.unusedSimpArgs false
set_option linter.unusedVariables false
theorem own_only {w w' : World} {base size n g : Nat} {e : TypeId} {v : Value} {xs : List Value} (h : w.ownsRow base e size v n xs) (ho : Only g w w') (hg : g < base) : w'.ownsRow base e size v n xs := by
  refine ⟨h.1, ?_⟩
  rcases h.2 with hn | ⟨k, c, cur, rfl, hb, hh, r⟩
  · exact .inl hn
  · exact .inr ⟨k, c, cur, rfl, hb, ho.blk (show Blk w k e cur from hh) (by omega), r⟩
theorem lpD_stop {l : List Int} {j : Nat} {st : Option Nat} {acc : List Tm} (h : (decide (0 < j) && st.isSome) = false) : lpD l j st acc = (st, acc) := by
  cases j with
  | zero => rfl
  | succ j => cases st with
    | none => rfl
    | some p => simp at h
theorem lpN_stop {l : List Int} {j : Nat} {st : Option Nat} {acc : List Nat} (h : (decide (0 < j) && st.isSome) = false) : lpN l j st acc = (st, acc) := by
  cases j with
  | zero => rfl
  | succ j => cases st with
    | none => rfl
    | some p => simp at h
theorem infoDs : (Try.prog.info? 73).map (fun i => (i.zero, i.size, i.bytes)) = some (some (.agg #[.int .i64 0, .int .i64 0]), 2, 16) := by kernel_rfl
theorem lpN_lt {l : List Int} (hb : ∀ b ∈ l, 0 ≤ b ∧ b < 256) : ∀ (j : Nat) (st : Option Nat) (acc : List Nat), (∀ x ∈ acc, x < 4294967296) → ∀ x ∈ (lpN l j st acc).2, x < 4294967296
  | 0, st, acc, h => h
  | j + 1, none, acc, h => h
  | j + 1, some p, acc, h => lpN_lt hb j _ _ (fun x hx => by
    rcases List.mem_append.1 hx with hx | hx
    · exact h x hx
    · rw [List.mem_singleton.1 hx]
      have := rN_range hb (some p) 4
      omega)
end Go.Proofs.Ytjmhefkmpfkpbaa
namespace Go.Proofs.Ytjmhefkmpfkpbaa
open Go.ChangeShapes Go.WideShapes Go.ChangeAt Go.RowKit
set_option linter.unusedSimpArgs false
set_option linter.unusedVariables false
/-- The error of bytes that are no frame; 0: they are one. -/
def tkE (l : List Nat) : Int := if l.length < 9 then 40 else if l.drop (l.length - 4) ≠ told (crc (l.take (l.length - 4))) then 42 else if ¬ (l.getD 0 0 = 72 ∧ l.getD 1 0 = 1 ∧ l.getD 3 0 * 256 + l.getD 4 0 = l.length - 9 ∧ l.length - 9 ≤ 4096) then 41 else 0
theorem tkE_ok {l : List Nat} (h : tkE l = 0) : OkT l := by
  unfold tkE at h
  by_cases h1 : l.length < 9
  · rw [if_pos h1] at h; cases h
  rw [if_neg h1] at h
  by_cases h2 : l.drop (l.length - 4) ≠ told (crc (l.take (l.length - 4)))
  · rw [if_pos h2] at h; cases h
  rw [if_neg h2] at h
  by_cases h3 : ¬ (l.getD 0 0 = 72 ∧ l.getD 1 0 = 1 ∧ l.getD 3 0 * 256 + l.getD 4 0 = l.length - 9 ∧ l.length - 9 ≤ 4096)
  · rw [if_pos h3] at h; cases h
  exact ⟨by omega, Classical.not_not.1 h2, Classical.not_not.1 h3⟩
theorem ok_tkE {l : List Nat} (h : OkT l) : tkE l = 0 := by
  unfold tkE
  rw [if_neg (by have := h.1; omega), if_neg (by intro h2; exact h2 h.2.1), if_neg (by intro h2; exact h2 h.2.2)]
def TkP (w : World) (l : List Nat) (en : Ending) (w' : World) : Prop := ((tkE l ≠ 0 ∧ en = .returned (.tuple #[.int .u8 0, .slice none 0 0, .int .i64 (tkE l)])) ∨ (tkE l = 0 ∧ ∃ A n c, en = .returned (.tuple #[.int .u8 (l.getD 2 0 : Nat), .slice A n c, .int .i64 0]) ∧ n = (content l).length ∧ n ≤ c ∧ Reads w' w'.heap.size 1 A n (bytes (content l)))) ∧ Below w.heap.size w w'
theorem take_e (A : Option Addr) (n c : Nat) (l : List Nat) (hnl : l.length = n) (hm : n ≤ 10000) (hc : n ≤ c) (hl : ∀ b ∈ l, b < 256) (w : World) (hR : Reads w w.heap.size 1 A n (bytes l)) :
    Calls Try.prog 23 #[.slice A n c] w (TkP w l) := by
  rcases Nat.lt_or_ge n 9 with h9 | h9
  · have e : tkE l = 40 := by unfold tkE; rw [if_pos (by omega)]
    refine (take_short A n c h9 w).mono ?_
    rintro en w' ⟨rfl, rfl⟩
    exact ⟨.inl ⟨by rw [e]; decide, by rw [e]⟩, Below.refl _ _⟩
  · obtain ⟨ad, hA, _⟩ := hR.2 (by omega)
    subst hA
    by_cases hs : l.drop (n - 4) = told (crc (l.take (n - 4)))
    · by_cases hf : (l.getD 0 0 = 72 ∧ l.getD 1 0 = 1 ∧ l.getD 3 0 * 256 + l.getD 4 0 = n - 9 ∧ n - 9 ≤ 4096)
      · have e : tkE l = 0 := ok_tkE ⟨by omega, by rw [hnl]; exact hs, by rw [hnl]; exact hf⟩
        refine (take_ok ad n c l hnl h9 hm hc hl w hR hs hf).mono ?_
        rintro en w' ⟨v, rfl, ho, hb⟩
        obtain ⟨A', c', rfl, hc', hR'⟩ := ho.slice
        exact ⟨.inr ⟨e, A', _, c', rfl, rfl, hc', hR'⟩, hb⟩
      · have e : tkE l = 41 := by unfold tkE; rw [if_neg (by omega), if_neg (by rw [hnl]; intro h; exact h hs), if_pos (by rw [hnl]; exact hf)]
        refine (take_form ad n c l hnl h9 hm hc hl w hR hs hf).mono ?_
        rintro en w' ⟨rfl, hb⟩
        exact ⟨.inl ⟨by rw [e]; decide, by rw [e]⟩, hb⟩
    · have e : tkE l = 42 := by unfold tkE; rw [if_neg (by omega), if_pos (by rw [hnl]; exact hs)]
      refine (take_sum ad n c l hnl h9 hm hc hl w hR hs).mono ?_
      rintro en w' ⟨rfl, hb⟩
      exact ⟨.inl ⟨by rw [e]; decide, by rw [e]⟩, hb⟩
/-- What mail.Read answers. -/
def ReadP (b : List Nat) (w : World) (en : Ending) (w' : World) : Prop := Below w.heap.size w w' ∧ ∃ (om : MO) (E : Int), en = .returned (.tuple #[aggL om, .int .i64 E]) ∧ ownL w' w.heap.size om ∧ ((tkE b ≠ 0 ∧ E = tkE b ∧ om.x = zeroL) ∨ (tkE b = 0 ∧ ((E = 0 ∧ GoodM ((b.getD 2 0 : Nat) : Int) ((content b).map Int.ofNat) om.x) ∨ (E = 41 ∧ om.x = zeroL ∧ ∀ m, ¬ GoodM ((b.getD 2 0 : Nat) : Int) ((content b).map Int.ofNat) m))))
set_option maxRecDepth 100000 in
set_option maxHeartbeats 16000000 in
theorem read_bad (v : Value) (E : Int) (hE : (E != 0) = true) (w : World) (hcall : ∀ V, Below w.heap.size w V → Calls Try.prog 23 #[v] V fun en w' => en = .returned (.tuple #[.int .u8 0, .slice none 0 0, .int .i64 E]) ∧ Below V.heap.size V w') :
    Calls Try.prog 14 #[v] w fun en w' => en = .returned (.tuple #[aggL zeroO, .int .i64 E]) ∧ Below w.heap.size w w' := by
  obtain ⟨V, hV⟩ : ∃ V, V = w.alloc (.cells #[.int .u8 0, .int .i64 0, .int .i64 0, .int .i64 0, .int .i64 0, .int .i64 0, .bool false, .slice none 0 0, .int .i64 0, .bool false, .slice none 0 0, .int .i64 0, .bool false, .slice none 0 0, .int .i64 0, .bool false, .slice none 0 0, .int .i64 0, .bool false, .slice none 0 0, .bool false, .int .i64 0, .int .i64 0, .slice none 0 0] 31) := ⟨_, rfl⟩
  have hB : Below w.heap.size w V := by rw [hV]; exact (Below.refl _ _).alloc (Nat.le_refl _) _
  have kz : Blk V w.heap.size 31 #[.int .u8 0, .int .i64 0, .int .i64 0, .int .i64 0, .int .i64 0, .int .i64 0, .bool false, .slice none 0 0, .int .i64 0, .bool false, .slice none 0 0, .int .i64 0, .bool false, .slice none 0 0, .int .i64 0, .bool false, .slice none 0 0, .int .i64 0, .bool false, .slice none 0 0, .bool false, .int .i64 0, .int .i64 0, .slice none 0 0] := by rw [hV]; exact Blk.new _ _ _
  have hc := hcall V hB
  clear hcall
  go_enter Try.func14, Try.ntmps14
  go_upto_region 1 with (fail)
  rw [← hV]
  clear hV
  go_wp2_with fail
  refine hc.mono ?_
  rintro en w1 ⟨rfl, hb1⟩
  have hz2 := kz.below hb1 kz.lt
  have hB2 := hB.trans (hb1.mono hB.size)
  have kf := hz2.setRow #[.int .u8 0, .int .i64 0, .int .i64 0, .int .i64 0, .int .i64 0, .int .i64 0, .bool false, .slice none 0 0, .int .i64 0, .bool false, .slice none 0 0, .int .i64 0, .bool false, .slice none 0 0, .int .i64 0, .bool false, .slice none 0 0, .int .i64 0, .bool false, .slice none 0 0, .bool false, .int .i64 0, .int .i64 0, .slice none 0 0]
  have hBf := below_setRow (g := w.heap.size) hB2 (Nat.le_refl _) #[.int .u8 0, .int .i64 0, .int .i64 0, .int .i64 0, .int .i64 0, .int .i64 0, .bool false, .slice none 0 0, .int .i64 0, .bool false, .slice none 0 0, .int .i64 0, .bool false, .slice none 0 0, .int .i64 0, .bool false, .slice none 0 0, .int .i64 0, .bool false, .slice none 0 0, .bool false, .int .i64 0, .int .i64 0, .slice none 0 0]
  clear hc kz hb1 hB
  go_wp2_with (refine wpList_store_row rfl 31 _ _ rfl w.heap.size #[.int .u8 0, .int .i64 0, .int .i64 0, .int .i64 0, .int .i64 0, .int .i64 0, .bool false, .slice none 0 0, .int .i64 0, .bool false, .slice none 0 0, .int .i64 0, .bool false, .slice none 0 0, .int .i64 0, .bool false, .slice none 0 0, .int .i64 0, .bool false, .slice none 0 0, .bool false, .int .i64 0, .int .i64 0, .slice none 0 0] rfl rfl 31 #[.int .u8 0, .int .i64 0, .int .i64 0, .int .i64 0, .int .i64 0, .int .i64 0, .bool false, .slice none 0 0, .int .i64 0, .bool false, .slice none 0 0, .int .i64 0, .bool false, .slice none 0 0, .int .i64 0, .bool false, .slice none 0 0, .int .i64 0, .bool false, .slice none 0 0, .bool false, .int .i64 0, .int .i64 0, .slice none 0 0] hz2.row info_mail rfl (by simp [Value.oneCell']) ?_)
  (try simp only [Exit.inBlock, Exit.then])
  refine bodyPost_ret (results_row_slot rfl _ _ w.heap.size 31 #[.int .u8 0, .int .i64 0, .int .i64 0, .int .i64 0, .int .i64 0, .int .i64 0, .bool false, .slice none 0 0, .int .i64 0, .bool false, .slice none 0 0, .int .i64 0, .bool false, .slice none 0 0, .int .i64 0, .bool false, .slice none 0 0, .int .i64 0, .bool false, .slice none 0 0, .bool false, .int .i64 0, .int .i64 0, .slice none 0 0] (0, 0) _ rfl kf.row Try.underlying31 rfl info_mail) rfl ?_
  exact ⟨rfl, hBf⟩
end Go.Proofs.Ytjmhefkmpfkpbaa
