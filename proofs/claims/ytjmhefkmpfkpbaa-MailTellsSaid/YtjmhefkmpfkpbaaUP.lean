/- Mail: what ref10.Of answers -/
import Derived.Test.YtjmhefkmpfkpbaaZUC
import Derived.Test.YtjmhefkmpfkpbaaZRefTakeO
import Derived.Test.YtjmhefkmpfkpbaaZPW
namespace Go.Proofs.Ytjmhefkmpfkpbaa
open Go.ChangeShapes Go.WideShapes Go.ChangeAt Go.RowKit
set_option linter.unusedSimpArgs false
set_option linter.unusedVariables false
set_option maxRecDepth 100000
def r0 (K fr tt ep nu ab : Int) : MO := ⟨⟨K, fr, tt, ep, nu, ab, zM, false, [], false, 0, 0, []⟩, none, 0, none, 0, none, 0, none, 0, none, 0, none, 0⟩
def stA (K : Int) (L : List Int) (h : Hd) : Option Nat := if K = 3 ∨ K = 4 then (rN L h.st 3).1 else h.st
def abA (K : Int) (L : List Int) (h : Hd) : Int := if K = 3 ∨ K = 4 then (rN L h.st 3).2 else 0
abbrev obS (w0 : World) (K : Int) (A : Option Addr) (n c : Nat) : List (Nat × Value) := [(0, gv true (.int .u8 K)), (1, gv true (.slice A n c)), (4, gv true (.pointer (some ⟨w0.heap.size, 0, none⟩))), (5, gv true (.bool false)), (6, gv true (pt w0 1)), (7, gv true (pt w0 2))]
/-- What ref10.Of answers. -/
def OfP (K : Int) (L : List Int) (w : World) (en : Ending) (w' : World) : Prop := Below w.heap.size w w' ∧ ∃ (om : MO) (b : Bool), en = .returned (.tuple #[aggL om, .bool b]) ∧ OwL w' w.heap.size om ∧ ((b = true ∧ GoodM K L om.x) ∨ (b = false ∧ om.x = zeroL ∧ ∀ m, ¬ GoodM K L m))
theorem rdv_ok' (A : Option Addr) (n c : Nat) (st : Option Nat) : (rdv A n c st)[0 + 2]? = some (.bool st.isSome) := rdv_ok A n c st
theorem dec_ltU {K : Int} {l : List Int} (hb : ∀ b ∈ l, 0 ≤ b ∧ b < 256) : ltL (dec K l).2 := by
  unfold dec
  dsimp only
  have z : ltM zM := ⟨(fun x h => by cases h), (fun x h => by cases h), (fun x h => by cases h), (fun x h => by cases h)⟩
  have nn : ∀ x ∈ ([] : List Nat), x < 4294967296 := fun x h => by cases h
  have d := fun st => (rD_lt hb st).2
  split
  · exact ⟨⟨d _, d _, nn, nn⟩, nn⟩
  split
  · exact ⟨⟨nn, nn, d _, d _⟩, nn⟩
  split
  · exact ⟨⟨nn, nn, d _, d _⟩, nn⟩
  split
  · exact ⟨z, nn⟩
  split
  · exact ⟨z, nn⟩
  split
  · exact ⟨z, lpN_lt hb _ _ _ nn⟩
  · exact ⟨z, nn⟩
theorem lpD_lenU (l : List Int) : ∀ (j : Nat) (st : Option Nat) (acc : List Tm), (lpD l j st acc).2.length ≤ acc.length + j
  | 0, st, acc => Nat.le_refl _
  | j + 1, none, acc => Nat.le_add_right _ _
  | j + 1, some p, acc => by
    have := lpD_lenU l j (rN l (rN l (some p) 1).1 4).1 (acc ++ [((rN l (some p) 1).2, (rN l (rN l (some p) 1).1 4).2)])
    simp only [List.length_append, List.length_singleton] at this
    unfold lpD
    omega
theorem lpN_lenU (l : List Int) : ∀ (j : Nat) (st : Option Nat) (acc : List Nat), (lpN l j st acc).2.length ≤ acc.length + j
  | 0, st, acc => Nat.le_refl _
  | j + 1, none, acc => Nat.le_add_right _ _
  | j + 1, some p, acc => by
    have := lpN_lenU l j (rN l (some p) 4).1 (acc ++ [(rN l (some p) 4).2.toNat])
    simp only [List.length_append, List.length_singleton] at this
    unfold lpN
    omega
theorem dec_smU {K : Int} {l : List Int} (hb : ∀ b ∈ l, 0 ≤ b ∧ b < 256) : smL (dec K l).2 := by
  unfold dec
  dsimp only
  have z : smM zM := ⟨by decide, by decide, by decide, by decide⟩
  have d := fun st => (rD_lt hb st).1
  have v := fun st => rN_range hb st 1
  have u : ∀ st, (rD l st).2.ls.length ≤ 100000 := fun st => Nat.le_trans (d st) (by decide)
  have o0 : ([] : List Nat).length ≤ 100000 := by decide
  have o1 : ([] : List Tm).length ≤ 5000 := by decide
  split
  · exact ⟨⟨u _, u _, o0, o0⟩, o1, o0⟩
  split
  · exact ⟨⟨o0, o0, u _, u _⟩, o1, o0⟩
  split
  · exact ⟨⟨o0, o0, u _, u _⟩, o1, o0⟩
  split
  · exact ⟨z, o1, o0⟩
  split
  · refine ⟨z, Nat.le_trans (lpD_lenU _ _ _ _) ?_, o0⟩
    have := v (rN l (hdR l).st 1).1
    simp only [List.length_nil]
    omega
  split
  · refine ⟨z, o1, Nat.le_trans (lpN_lenU _ _ _ _) ?_⟩
    have := v (rN l (rN l (rN l (hdR l).st 1).1 4).1 4).1
    simp only [List.length_nil]
    omega
  · exact ⟨z, o1, o0⟩
theorem flat_eqU {l : List Int} (h : ∀ b ∈ l, 0 ≤ b ∧ b < 256) (m : Ml) : byP m = l.map Int.toNat ↔ flat (conP m) = l := by
  constructor
  · intro e
    have h1 : (byP m).map Int.ofNat = flat (conP m) := by
      unfold byP
      rw [List.map_map]
      conv => rhs; rw [← List.map_id (flat (conP m))]
      exact List.map_congr_left fun b hb => by have := (flat_byte _ b hb).1; show ((b.toNat : Nat) : Int) = b; omega
    have h2 : (l.map Int.toNat).map Int.ofNat = l := by
      rw [List.map_map]
      conv => rhs; rw [← List.map_id l]
      exact List.map_congr_left fun b hb => by have := (h b hb).1; show ((b.toNat : Nat) : Int) = b; omega
    rw [← h1, e, h2]
  · intro e
    unfold byP
    rw [e]
theorem lp_on {i N : Nat} {st : Option Nat} (h : (decide ((i : Int) < (N : Int)) && st.isSome) = true) : i < N ∧ ∃ p, st = some p := by
  simp only [Bool.and_eq_true, decide_eq_true_eq, Option.isSome_iff_exists] at h
  exact ⟨by omega, h.2⟩
theorem lp_off {i N : Nat} {st : Option Nat} (h : (decide ((i : Int) < (N : Int)) && st.isSome) = false) : (decide (0 < N - i) && st.isSome) = false := by
  rw [show decide (0 < N - i) = decide ((i : Int) < (N : Int)) from decide_eq_decide.2 (by omega)]
  exact h
theorem OwL.base_le {w : World} {B b : Nat} {r : MO} (h : OwL w B r) (hb : b ≤ B) : OwL w b r := ⟨h.1.base_le hb, own_base_leU h.2.1 hb, own_base_leU h.2.2 hb⟩
set_option maxHeartbeats 32000000 in
theorem rof10_any (K : Int) (hK : 0 ≤ K ∧ K < 256) (A : Option Addr) (n c : Nat) (L : List Int) (w0 : World) (I : OfI w0 A n c L)
    (hcon : ∀ (o : MO) (w : World), okL o.x → ltL o.x → rdL w w.heap.size o → Calls Try.prog 66 #[aggL o] w fun en w' => ∃ X cc, en = .returned (.slice X (total (conP o.x)) cc) ∧ w'.ownsRow w.heap.size 5 1 (.slice X (total (conP o.x)) cc) (total (conP o.x)) (u8s (flat (conP o.x))) ∧ Below w.heap.size w w') : Calls Try.prog 36 #[.int .u8 K, .slice A n c] w0 (OfP K L w0) := by
  go_enter Try.func36, Try.ntmps36
  refine wp_abs (l := [(0, gv true (.int .u8 K)), (1, gv true (.slice A n c))]) 205 rfl rfl (allC rfl (allC rfl allN)) ?_
  intro a S
  refine wp_seq (wp_region_lit ?_)
  refine sxW S (.pointer (some ⟨w0.heap.size, 0, none⟩)) (w0.alloc (.cells z24 31)) (wantN rfl _) (by go_simp; try rfl) ?_; intro a S
  refine sx0 S (.bool false) (wantN rfl _) rfl (by decide) (fun _ => by go_simp; try rfl) ?_; intro a S
  have k4 := Blk.new w0 31 z24
  have hB := (Below.refl w0.heap.size w0).alloc (Nat.le_refl _) (.cells z24 31)
  have e1 := World.size_alloc w0 (.cells z24 31)
  obtain ⟨w1, hw⟩ : ∃ W, W = w0.alloc (.cells z24 31) := ⟨_, rfl⟩
  rw [← hw] at k4 hB e1 ⊢
  clear hw
  refine wpList_nil ?_
  show Code.wp _ _ _ _ _
  refine wp_seq (wp_region_lit ?_)
  refine sxMv S (wantN rfl _) rfl (fun _ => rfl) ?_; intro a S
  refine sx1 13 S (.agg (mA (r0 K 0 0 0 0 0))) (wantN rfl _) rfl (fun _ => rfl) (fun ev ec e => by go_simp; simp [r0, zM]) ?_; intro a S
  refine sxBox z24 S rfl (fun a w2 S k6 hb e2 => ?_)
  replace k4 := k4.below hb k4.lt
  replace hB := hB.trans (hb.mono hB.size)
  clear hb
  rw [e1] at k6 e2 S
  clear e1
  refine wpList_nil ?_
  show Code.wp _ _ _ _ _
  refine wp_seq (wp_region_lit ?_)
  refine sxMv S (wantN rfl _) rfl (fun _ => rfl) ?_; intro a S
  refine sx1 15 S (.agg #[.slice A n c, .int .i64 0]) (wantN rfl _) rfl (fun _ => rfl) (fun ev ec e => by go_simp; try rfl) ?_; intro a S
  refine sx1 16 S (.agg (rdv A n c (some 0))) (wantN rfl _) rfl (fun _ => rfl) (fun ev ec e => by go_simp; try rfl) ?_; intro a S
  refine sxBox #[.slice none 0 0, .int .i64 0, .bool false] S rfl (fun a w3 S k7 hb e3 => ?_) (h1 := rdv_one ..)
  replace k4 := k4.below hb k4.lt
  replace k6 := k6.below hb k6.lt
  replace hB := hB.trans (hb.mono hB.size)
  clear hb
  rw [e2] at k7 S
  clear e2
  have H : OfS w0 A n c (r0 K 0 0 0 0 0) (some 0) w3 := ⟨⟨hB, k4, k6, k7, fun p hp => by cases hp; exact Nat.zero_le _⟩, ⟨OwD.one _ _, OwD.one _ _, OwD.one _ _, OwD.one _ _⟩, own_nil (c := 0), own_nil (c := 0)⟩
  clear k4 k6 k7 hB e3
  replace S : Sx a 205 (obS w0 K A n c) := S.sub (allC rfl (allC rfl (allC rfl (allC rfl (allC rfl (allC rfl allN))))))
  refine wpList_nil ?_
  show Code.wp _ _ _ _ _
  refine wp_seq (wp_region_lit ?_)
  refine ofN 1 I H S (fun a w S H kk => ?_)
  refine ofS (off := 1) (r0 K (hdR L).fr 0 0 0 0) H S (fun a w S H => ?_)
  refine wpList_nil ?_
  show Code.wp _ _ _ _ _
  refine wp_seq (wp_region_lit ?_)
  refine ofN 1 I H S (fun a w S H kk => ?_)
  refine ofS (off := 2) (r0 K (hdR L).fr (hdR L).tt 0 0 0) H S (fun a w S H => ?_)
  refine wpList_nil ?_
  show Code.wp _ _ _ _ _
  refine wp_seq (wp_region_lit ?_)
  refine ofN 2 I H S (fun a w S H kk => ?_)
  refine ofS (off := 3) (r0 K (hdR L).fr (hdR L).tt (hdR L).ep 0 0) H S (fun a w S H => ?_)
  refine wpList_nil ?_
  show Code.wp _ _ _ _ _
  refine wp_seq (wp_region_lit ?_)
  refine ofN 3 I H S (fun a w S H kk => ?_)
  refine ofS (off := 4) (r0 K (hdR L).fr (hdR L).tt (hdR L).ep (hdR L).nu 0) H S (fun a w S H => ?_)
  refine wpList_nil ?_
  show Code.wp _ _ _ _ _
  replace H : OfS w0 A n c (r0 K (hdR L).fr (hdR L).tt (hdR L).ep (hdR L).nu 0) (hdR L).st w := H
  obtain ⟨h, hh⟩ : ∃ h, h = hdR L := ⟨_, rfl⟩
  rw [← hh] at H
  replace hh := Lib.hid hh
  refine wp_seq (wp_region_lit ?_)
  refine sx0 S (.int .i64 0) (wantN rfl _) rfl (by decide) (fun _ => by go_simp; try rfl) ?_; intro a S
  refine wpList_nil ?_
  show Code.wp _ _ _ _ _
  refine wp_join (fun a wx => Sx a 205 ((8, gv true (.int .i64 0)) :: obS w0 K A n c) ∧ OfS w0 A n c (r0 K h.fr h.tt h.ep h.nu (abA K L h)) (stA K L h) wx) ?_ (fun a w ⟨S, H⟩ => ?_)
  · refine wp_seq (wp_region_lit ?_)
    repeat (first | refine qMv (fun a S => ?_) | refine qOr (fun a S => ?_) | refine qEql (fun a S => ?_) | refine qAs (fun a S => ?_))
    refine wpList_nil ?_
    show Code.wp _ _ _ _ _
    refine wp_cond_split (S.fx 47 _ rfl) (fun ht => ?_) (fun hf => ?_)
    · replace S : Sx a 205 ((8, gv true (.int .i64 0)) :: obS w0 K A n c) := S.sub (allC rfl (allC rfl (allC rfl (allC rfl (allC rfl (allC rfl (allC rfl allN)))))))
      have hk : K = 3 ∨ K = 4 := by simpa using ht
      refine wp_region_lit ?_
      refine ofN 3 I H S (fun a w S H kk => ?_)
      refine ofS (off := 5) (r0 K h.fr h.tt h.ep h.nu (rN L h.st 3).2) H S (fun a w S H => ?_)
      refine wpList_nil ?_
      show _ ∧ _
      refine ⟨S, ?_⟩
      unfold abA stA
      rw [if_pos hk, if_pos hk]
      exact H
    · have hk : ¬ (K = 3 ∨ K = 4) := by simpa using hf
      refine wp_skip ?_
      show _ ∧ _
      refine ⟨S.sub (allC rfl (allC rfl (allC rfl (allC rfl (allC rfl (allC rfl (allC rfl allN))))))), ?_⟩
      unfold abA stA
      rw [if_neg hk, if_neg hk]
      exact H
  refine wp_join (fun a wx => ∃ (r : MO) (st : Option Nat), Sx a 205 (obS w0 K A n c) ∧ OfS w0 A n c r st wx ∧ dec K L = (st, r.x)) ?_ (fun a w ⟨r, st, S, H, hd⟩ => ?_)
  · refine wp_seq (wp_region_lit ?_)
    repeat (first | refine qMv (fun a S => ?_) | refine qOr (fun a S => ?_) | refine qEql (fun a S => ?_) | refine qAs (fun a S => ?_))
    refine wpList_nil ?_
    show Code.wp _ _ _ _ _
    refine wp_block ?_
    refine wp_seq (wp_region_lit ?_)
    repeat (first | refine qMv (fun a S => ?_) | refine qOr (fun a S => ?_) | refine qEql (fun a S => ?_) | refine qAs (fun a S => ?_))
    refine wpList_nil ?_
    show Code.wp _ _ _ _ _
    refine wp_cond_split (S.fx 55 _ rfl) (fun ht => ?_) (fun hf => ?_)
    · have hk := Lib.hid (show K = 1 by simpa using ht)
      replace S : Sx a 205 (obS w0 K A n c) := S.sub (allC rfl (allC rfl (allC rfl (allC rfl (allC rfl (allC rfl allN))))))
      refine wp_seq (wp_region_lit ?_)
      refine ofD I H S (fun a w X0 cc0 S H ow => ?_)
      refine ofT (off := 6) (k := 6) (⟨⟨K, h.fr, h.tt, h.ep, h.nu, abA K L h, ⟨(rD L (stA K L h)).2, ⟨false, [], 0⟩, ⟨false, [], 0⟩, ⟨false, [], 0⟩⟩, false, [], false, 0, 0, []⟩, X0, cc0, none, 0, none, 0, none, 0, none, 0, none, 0⟩) H S (fun a w S H => ?_) ⟨⟨ow, (OwD.one _ _), (OwD.one _ _), (OwD.one _ _)⟩, own_nil (c := 0), own_nil (c := 0)⟩
      refine wpList_nil ?_
      show Code.wp _ _ _ _ _
      refine wp_region_lit ?_
      refine ofD I H S (fun a w X1 cc1 S H ow => ?_)
      refine ofT (off := 9) (k := 6) (⟨⟨K, h.fr, h.tt, h.ep, h.nu, abA K L h, ⟨(rD L (stA K L h)).2, (rD L (rD L (stA K L h)).1).2, ⟨false, [], 0⟩, ⟨false, [], 0⟩⟩, false, [], false, 0, 0, []⟩, X0, cc0, X1, cc1, none, 0, none, 0, none, 0, none, 0⟩) H S (fun a w S H => ?_) ⟨⟨H.ow.1.1, ow, (OwD.one _ _), (OwD.one _ _)⟩, own_nil (c := 0), own_nil (c := 0)⟩
      refine wpList_nil ?_
      show ∃ _, _
      refine ⟨_, _, S, H, ?_⟩
      have hk := hk.out; have hh := hh.out; subst hk hh
      rfl
    · refine wp_join (fun a wx => Sx a 205 ((71, gv true (.bool ((K == 2) || (K == 3)))) :: ((54, gv true (.int .u8 K)) :: (8, gv true (.int .i64 0)) :: obS w0 K A n c)) ∧ OfS w0 A n c (r0 K h.fr h.tt h.ep h.nu (abA K L h)) (stA K L h) wx) ?_ (fun a w ⟨S, H⟩ => ?_)
      · refine wp_seq (wp_region_lit ?_)
        repeat (first | refine qMv (fun a S => ?_) | refine qOr (fun a S => ?_) | refine qEql (fun a S => ?_) | refine qAs (fun a S => ?_))
        refine wpList_nil ?_
        show Code.wp _ _ _ _ _
        refine wp_cond_split (S.fx 71 _ rfl) (fun ht => ?_) (fun hf => ?_)
        · refine wp_skip ?_
          show _ ∧ _
          rw [show ((K == 2) || (K == 3)) = (K == 2) from by rw [ht]; rfl]
          exact ⟨S.sub (allC rfl (allC rfl (allC rfl (allC rfl (allC rfl (allC rfl (allC rfl (allC rfl (allC rfl allN))))))))), H⟩
        · refine wp_region_lit ?_
          repeat (first | refine qMv (fun a S => ?_) | refine qOr (fun a S => ?_) | refine qEql (fun a S => ?_) | refine qAs (fun a S => ?_))
          refine wpList_nil ?_
          show _ ∧ _
          rw [show ((K == 2) || (K == 3)) = (K == 3) from by rw [hf]; rfl]
          exact ⟨S.sub (allC rfl (allC rfl (allC rfl (allC rfl (allC rfl (allC rfl (allC rfl (allC rfl (allC rfl allN))))))))), H⟩
      refine wp_cond_split (S.fx 71 _ rfl) (fun ht => ?_) (fun hg => ?_)
      · have hk := Lib.hid (show K = 2 ∨ K = 3 by simpa using ht)
        replace S : Sx a 205 (obS w0 K A n c) := S.sub (allC rfl (allC rfl (allC rfl (allC rfl (allC rfl (allC rfl allN))))))
        refine wp_seq (wp_region_lit ?_)
        refine ofD I H S (fun a w X0 cc0 S H ow => ?_)
        refine ofT (off := 12) (k := 6) (⟨⟨K, h.fr, h.tt, h.ep, h.nu, abA K L h, ⟨⟨false, [], 0⟩, ⟨false, [], 0⟩, (rD L (stA K L h)).2, ⟨false, [], 0⟩⟩, false, [], false, 0, 0, []⟩, none, 0, none, 0, X0, cc0, none, 0, none, 0, none, 0⟩) H S (fun a w S H => ?_) ⟨⟨(OwD.one _ _), (OwD.one _ _), ow, (OwD.one _ _)⟩, own_nil (c := 0), own_nil (c := 0)⟩
        refine wpList_nil ?_
        show Code.wp _ _ _ _ _
        refine wp_region_lit ?_
        refine ofD I H S (fun a w X1 cc1 S H ow => ?_)
        refine ofT (off := 15) (k := 6) (⟨⟨K, h.fr, h.tt, h.ep, h.nu, abA K L h, ⟨⟨false, [], 0⟩, ⟨false, [], 0⟩, (rD L (stA K L h)).2, (rD L (rD L (stA K L h)).1).2⟩, false, [], false, 0, 0, []⟩, none, 0, none, 0, X0, cc0, X1, cc1, none, 0, none, 0⟩) H S (fun a w S H => ?_) ⟨⟨(OwD.one _ _), (OwD.one _ _), H.ow.1.2.2.1, ow⟩, own_nil (c := 0), own_nil (c := 0)⟩
        refine wpList_nil ?_
        show ∃ _, _
        refine ⟨_, _, S, H, ?_⟩
        have hk := hk.out
        have hh := hh.out
        rcases hk with rfl | rfl
        · subst hh
          rfl
        · subst hh
          rfl
      refine wp_seq (wp_region_lit ?_)
      repeat (first | refine qMv (fun a S => ?_) | refine qOr (fun a S => ?_) | refine qEql (fun a S => ?_) | refine qAs (fun a S => ?_))
      refine wpList_nil ?_
      show Code.wp _ _ _ _ _
      refine wp_cond_split (S.fx 88 _ rfl) (fun ht => ?_) (fun hi => ?_)
      · have hk := Lib.hid (show K = 5 by simpa using ht)
        have e3 : ¬ (K = 3 ∨ K = 4) := by have := hk.out; omega
        replace H : OfS w0 A n c (r0 K h.fr h.tt h.ep h.nu 0) h.st w := by unfold abA stA at H; rw [if_neg e3, if_neg e3] at H; exact H
        replace S : Sx a 205 (obS w0 K A n c) := S.sub (allC rfl (allC rfl (allC rfl (allC rfl (allC rfl (allC rfl allN))))))
        refine wp_seq (wp_region_lit ?_)
        refine ofN 1 I H S (fun a w S H kk => ?_)
        refine qAs (fun a S => ?_)
        replace S : Sx a 205 ((8, gv true (.int .i64 (rN L h.st 1).2)) :: obS w0 K A n c) := S.sub (allC rfl (allC rfl (allC rfl (allC rfl (allC rfl (allC rfl (allC rfl allN)))))))
        refine wpList_nil ?_
        show Code.wp _ _ _ _ _
        refine wp_seq (wp_region_lit ?_)
        refine qMv (fun a S => ?_)
        refine qEql (fun a S => ?_)
        refine qF (fun a S => ?_)
        refine ofC (off := 18) (⟨⟨K, h.fr, h.tt, h.ep, h.nu, 0, zM, (rN L h.st 1).2 == 1, [], false, 0, 0, []⟩, none, 0, none, 0, none, 0, none, 0, none, 0, none, 0⟩) H.toOfT S (fun a w S H kk => ?_) H.ow
        replace S : Sx a 205 (obS w0 K A n c) := S.sub (allC rfl (allC rfl (allC rfl (allC rfl (allC rfl (allC rfl allN))))))
        refine wpList_nil ?_
        show Code.wp _ _ _ _ _
        refine wp_seq (wp_region_lit ?_)
        refine ofN 1 I H S (fun a w S H kk => ?_)
        refine qAs (fun a S => ?_)
        replace S : Sx a 205 ((8, gv true (.int .i64 (rN L (rN L h.st 1).1 1).2)) :: obS w0 K A n c) := S.sub (allC rfl (allC rfl (allC rfl (allC rfl (allC rfl (allC rfl (allC rfl allN)))))))
        refine wpList_nil ?_
        show Code.wp _ _ _ _ _
        obtain ⟨N, hN⟩ : ∃ N : Nat, (rN L (rN L h.st 1).1 1).2 = (N : Int) := ⟨(rN L (rN L h.st 1).1 1).2.toNat, by have := (rN_range I.hb (rN L h.st 1).1 1).1; omega⟩
        have hN8 : (N : Int) < ((256 ^ 1 : Nat) : Int) := by rw [← hN]; exact (rN_range I.hb _ 1).2
        replace hN8 : N < 256 := by omega
        rw [hN] at S
        refine wp_seq (wp_region_lit ?_)
        refine sx0 S (.int .i64 ((0 : Nat) : Int)) (wantN rfl _) rfl (by decide) (fun _ => by go_simp; try rfl) ?_; intro a S
        refine wpList_nil ?_
        show Code.wp _ _ _ _ _
        obtain ⟨i0, hi0, hz0, hz1, hz2⟩ := info_parts infoDs
        refine wp_block ?_
        refine wp_loop_ghost (fun k a wx => ∃ (i : Nat) (st : Option Nat) (acc : List Tm) (D : Option Addr) (dc : Nat), k = N - i ∧ i ≤ N ∧ Sx a 205 ((9, gv true (.int .i64 (i : Int))) :: (8, gv true (.int .i64 (N : Int))) :: obS w0 K A n c) ∧ OfS w0 A n c ⟨⟨K, h.fr, h.tt, h.ep, h.nu, 0, zM, (rN L h.st 1).2 == 1, acc, false, 0, 0, []⟩, none, 0, none, 0, none, 0, none, 0, D, dc, none, 0⟩ st wx ∧ acc.length = i ∧ lpD L N (rN L (rN L h.st 1).1 1).1 [] = lpD L (N - i) st acc) N ⟨0, _, [], none, 0, rfl, Nat.zero_le _, S, H, rfl, rfl⟩ ?_
        rintro k a w ⟨i, st, acc, D, dc, rfl, hi2, S, H, hl, hlp⟩
        refine wp_seq (wp_seq (wp_region_lit ?_))
        refine qMv (fun a S => ?_)
        refine qMv (fun a S => ?_)
        refine sx2 103 104 S (.bool (decide ((i : Int) < (N : Int)))) (wantN rfl _) rfl rfl (fun _ => rfl) (fun _ => rfl) (fun ev ec e e2 => by go_simp; try rfl) ?_; intro a S
        refine qMv (fun a S => ?_)
        refine qF (fun a S => ?_)
        refine qL H.k7 (hv := rdv_ok' A n c st) (fun a S => ?_)
        refine qAnd (fun a S => ?_)
        refine wpList_nil ?_
        show Code.wp _ _ _ _ _
        refine wp_cond_split (S.fx 109 _ rfl) (fun ht => ?_) (fun hf => ?_)
        · obtain ⟨hlt, p, rfl⟩ := lp_on ht
          replace S : Sx a 205 ((9, gv true (.int .i64 (i : Int))) :: (8, gv true (.int .i64 (N : Int))) :: obS w0 K A n c) := S.sub (allC rfl (allC rfl (allC rfl (allC rfl (allC rfl (allC rfl (allC rfl (allC rfl allN))))))))
          refine wp_skip ?_
          show Code.wp _ _ _ _ _
          refine wp_seq (wp_block ?_)
          refine wp_seq (wp_region_lit ?_)
          have hg := H.k7.lt
          have hne : (Value.slice D acc.length dc).ownBlock ≠ some w.heap.size := fun e => by have := own_lt H.ow.2.1 e; omega
          refine sxW S (.pointer (some ⟨w.heap.size, 0, none⟩)) (w.alloc (.cells #[.int .i64 0, .int .i64 0] 73)) (wantN rfl _) (by go_simp; try rfl) ?_; intro a S
          have kd := Blk.new w 73 #[.int .i64 0, .int .i64 0]
          replace H := H.below ((Below.refl _ _).alloc (Nat.le_refl _) (.cells #[.int .i64 0, .int .i64 0] 73))
          obtain ⟨w1, hw⟩ : ∃ W, W = w.alloc (.cells #[.int .i64 0, .int .i64 0] 73) := ⟨_, rfl⟩
          rw [← hw] at H kd ⊢
          clear hw
          obtain ⟨g, hgg⟩ : ∃ g, g = w.heap.size := ⟨_, rfl⟩
          rw [← hgg] at kd hg hne S
          clear hgg
          replace S : Sx a 205 ((10, gv true (.pointer (some ⟨g, 0, none⟩))) :: (9, gv true (.int .i64 (i : Int))) :: (8, gv true (.int .i64 (N : Int))) :: obS w0 K A n c) := S.sub (allC rfl (allC rfl (allC rfl (allC rfl (allC rfl (allC rfl (allC rfl (allC rfl (allC rfl allN)))))))))
          refine wpList_nil ?_
          show Code.wp _ _ _ _ _
          refine wp_seq (wp_region_lit ?_)
          refine ofN 1 I H S (fun a w S H kk => ?_)
          replace kd := kk (by omega) kd
          refine qF (fun a S => ?_)
          refine sxS (x := 117) (y := 116) S (w.setCell ⟨g, 0, none⟩ (.int .i64 (rN L (some p) 1).2)) rfl rfl (fun ev e e2 => run_store_cell _ _ rfl e e2 kd (by simp) rfl (by kernel_rfl)) ?_; intro a S
          replace H := H.cell5 (i := 0) hg hne (.int .i64 (rN L (some p) 1).2)
          replace kd := kd.set_ 0 (.int .i64 (rN L (some p) 1).2)
          obtain ⟨w1, hw⟩ : ∃ W, W = w.setCell ⟨g, 0, none⟩ (.int .i64 (rN L (some p) 1).2) := ⟨_, rfl⟩
          rw [← hw] at H kd ⊢
          clear hw
          replace S : Sx a 205 ((10, gv true (.pointer (some ⟨g, 0, none⟩))) :: (9, gv true (.int .i64 (i : Int))) :: (8, gv true (.int .i64 (N : Int))) :: obS w0 K A n c) := S.sub (allC rfl (allC rfl (allC rfl (allC rfl (allC rfl (allC rfl (allC rfl (allC rfl (allC rfl allN)))))))))
          refine wpList_nil ?_
          show Code.wp _ _ _ _ _
          refine wp_seq (wp_region_lit ?_)
          refine ofN 4 I H S (fun a w S H kk => ?_)
          replace kd := kk (by omega) kd
          refine qF (fun a S => ?_)
          refine sxS (x := 123) (y := 122) S (w.setCell ⟨g, 1, none⟩ (.int .i64 (rN L (rN L (some p) 1).1 4).2)) rfl rfl (fun ev e e2 => run_store_cell _ _ rfl e e2 kd (by simp) rfl (by kernel_rfl)) ?_; intro a S
          replace H := H.cell5 (i := 1) hg hne (.int .i64 (rN L (rN L (some p) 1).1 4).2)
          replace kd := kd.set_ 1 (.int .i64 (rN L (rN L (some p) 1).1 4).2)
          obtain ⟨w1, hw⟩ : ∃ W, W = w.setCell ⟨g, 1, none⟩ (.int .i64 (rN L (rN L (some p) 1).1 4).2) := ⟨_, rfl⟩
          rw [← hw] at H kd ⊢
          clear hw
          replace S : Sx a 205 ((10, gv true (.pointer (some ⟨g, 0, none⟩))) :: (9, gv true (.int .i64 (i : Int))) :: (8, gv true (.int .i64 (N : Int))) :: obS w0 K A n c) := S.sub (allC rfl (allC rfl (allC rfl (allC rfl (allC rfl (allC rfl (allC rfl (allC rfl (allC rfl allN)))))))))
          refine wpList_nil ?_
          show Code.wp _ _ _ _ _
          refine wp_region_lit ?_
          refine qF (fun a S => ?_)
          refine qL H.k6 (fun a S => ?_)
          refine sx1 10 S (.agg #[.int .i64 (rN L (some p) 1).2, .int .i64 (rN L (rN L (some p) 1).1 4).2]) (wantN rfl _) rfl (fun _ => rfl) (fun ev ec e => run_load_row 73 _ rfl g e _ 73 _ kd Try.underlying73 rfl (by kernel_rfl)) ?_; intro a S
          refine sxW S (.slice (some ⟨w1.heap.size, 0, none⟩) 1 1) (w1.alloc (.cells #[.int .i64 (rN L (some p) 1).2, .int .i64 (rN L (rN L (some p) 1).1 4).2] 73)) (wantN rfl _) (runG 126 S rfl rfl (fun ev ec ef e => by go_simp; try simp)) ?_; intro a S
          refine ofP i0 _ 2 16 Try.underlying27 hi0 hz0 hz1 hz2 rfl (by omega) H S H.ow.2.1 rfl (by simp [Value.oneCell']) (by show acc.length ≤ 100000; omega) (by omega) (fun a w D' dc' S H hor => ?_)
          refine qF (fun a S => ?_)
          have hl1 : (acc ++ [((rN L (some p) 1).2, (rN L (rN L (some p) 1).1 4).2)]).length = acc.length + 1 := by simp
          refine ofC (off := 19) (⟨⟨K, h.fr, h.tt, h.ep, h.nu, 0, zM, (rN L h.st 1).2 == 1, (acc ++ [((rN L (some p) 1).2, (rN L (rN L (some p) 1).1 4).2)]), false, 0, 0, []⟩, none, 0, none, 0, none, 0, none, 0, D', dc', none, 0⟩) H S (fun a w S H kk => ?_) ⟨⟨OwD.one _ _, OwD.one _ _, OwD.one _ _, OwD.one _ _⟩, by dsimp only; rw [hl1, T2_app]; exact hor, World.ownsRow_nil _ _ _ _⟩ (by unfold mA; dsimp only; rw [hl1]; rfl)
          replace S : Sx a 205 ((9, gv true (.int .i64 (i : Int))) :: (8, gv true (.int .i64 (N : Int))) :: obS w0 K A n c) := S.sub (allC rfl (allC rfl (allC rfl (allC rfl (allC rfl (allC rfl (allC rfl (allC rfl allN))))))))
          refine wpList_nil ?_
          show Code.wp _ _ _ _ _
          refine wp_region_lit ?_
          refine qMv (fun a S => ?_)
          refine sx1 110 S (.int .i64 (((i + 1 : Nat)) : Int)) (wantN rfl _) rfl (fun _ => rfl) (fun ev ec e => by have hw : IntKind.i64.wrap ((i : Int) + 1) = ((i + 1 : Nat) : Int) := IntWalk.i64_in _ (by omega); go_simp; try rfl) ?_; intro a S
          refine qAs (fun a S => ?_)
          refine wpList_nil ?_
          show ∃ n', _
          exact ⟨N - (i + 1), by omega, i + 1, _, _, _, _, rfl, by omega, S.sub (allC rfl (allC rfl (allC rfl (allC rfl (allC rfl (allC rfl (allC rfl (allC rfl allN)))))))), H, by rw [hl1, hl], by rw [hlp, show N - i = (N - (i + 1)) + 1 by omega]; rfl⟩
        · refine wp_exit ?_
          refine then_exit (then_exit (inBlock_exit ?_))
          show ∃ _, _
          refine ⟨_, _, S.sub (allC rfl (allC rfl (allC rfl (allC rfl (allC rfl (allC rfl allN)))))), H, ?_⟩
          have hs := hlp.trans (lpD_stop (by rw [lp_off hf]))
          have hk := hk.out; have hh := hh.out; subst hk hh
          show ((lpD L (rN L (rN L (hdR L).st 1).1 1).2.toNat (rN L (rN L (hdR L).st 1).1 1).1 []).1, (⟨5, _, _, _, _, 0, zM, _, (lpD L (rN L (rN L (hdR L).st 1).1 1).2.toNat (rN L (rN L (hdR L).st 1).1 1).1 []).2, false, 0, 0, []⟩ : Ml)) = _
          rw [hN, Int.toNat_natCast, hs]
      refine wp_seq (wp_region_lit ?_)
      repeat (first | refine qMv (fun a S => ?_) | refine qOr (fun a S => ?_) | refine qEql (fun a S => ?_) | refine qAs (fun a S => ?_))
      refine wpList_nil ?_
      show Code.wp _ _ _ _ _
      refine wp_cond_split (S.fx 130 _ rfl) (fun ht => ?_) (fun hj => ?_)
      · have hk := Lib.hid (show K = 6 by simpa using ht)
        have e3 : ¬ (K = 3 ∨ K = 4) := by have := hk.out; omega
        replace H : OfS w0 A n c (r0 K h.fr h.tt h.ep h.nu 0) h.st w := by unfold abA stA at H; rw [if_neg e3, if_neg e3] at H; exact H
        replace S : Sx a 205 (obS w0 K A n c) := S.sub (allC rfl (allC rfl (allC rfl (allC rfl (allC rfl (allC rfl allN))))))
        refine wp_seq (wp_region_lit ?_)
        refine ofN 1 I H S (fun a w S H kk => ?_)
        refine qAs (fun a S => ?_)
        replace S : Sx a 205 ((8, gv true (.int .i64 (rN L h.st 1).2)) :: obS w0 K A n c) := S.sub (allC rfl (allC rfl (allC rfl (allC rfl (allC rfl (allC rfl (allC rfl allN)))))))
        refine wpList_nil ?_
        show Code.wp _ _ _ _ _
        refine wp_seq (wp_region_lit ?_)
        refine qMv (fun a S => ?_)
        refine qEql (fun a S => ?_)
        refine qF (fun a S => ?_)
        refine qF (fun a S => ?_)
        refine ofC (off := 20) (⟨⟨K, h.fr, h.tt, h.ep, h.nu, 0, zM, false, [], (rN L h.st 1).2 == 1, 0, 0, []⟩, none, 0, none, 0, none, 0, none, 0, none, 0, none, 0⟩) H.toOfT S (fun a w S H kk => ?_) H.ow
        replace S : Sx a 205 (obS w0 K A n c) := S.sub (allC rfl (allC rfl (allC rfl (allC rfl (allC rfl (allC rfl allN))))))
        refine wpList_nil ?_
        show Code.wp _ _ _ _ _
        refine wp_seq (wp_region_lit ?_)
        refine ofN 4 I H S (fun a w S H kk => ?_)
        refine qAs (fun a S => ?_)
        replace S : Sx a 205 ((8, gv true (.int .i64 (rN L (rN L h.st 1).1 4).2)) :: obS w0 K A n c) := S.sub (allC rfl (allC rfl (allC rfl (allC rfl (allC rfl (allC rfl (allC rfl allN)))))))
        refine wpList_nil ?_
        show Code.wp _ _ _ _ _
        refine wp_seq (wp_region_lit ?_)
        refine qMv (fun a S => ?_)
        have hx0 := rN_range I.hb (rN L h.st 1).1 4
        have wra : IntKind.i64.wrap ((rN L (rN L h.st 1).1 4).2 - 2147483647) = (rN L (rN L h.st 1).1 4).2 - 2147483647 := IntWalk.i64_in _ (by omega)
        have wrb : IntKind.i64.wrap ((rN L (rN L h.st 1).1 4).2 - 2147483647 - 1) = (rN L (rN L h.st 1).1 4).2 - 2147483648 := by rw [IntWalk.i64_in _ (by omega)]; omega
        refine sx1 146 S (.int .i64 ((rN L (rN L h.st 1).1 4).2 - 2147483647)) (wantN rfl _) rfl (fun _ => rfl) (fun ev ec e => by go_simp; try rfl) ?_; intro a S
        refine sx1 147 S (.int .i64 ((rN L (rN L h.st 1).1 4).2 - 2147483648)) (wantN rfl _) rfl (fun _ => rfl) (fun ev ec e => by go_simp; try rfl) ?_; intro a S
        clear wra wrb hx0
        refine qF (fun a S => ?_)
        refine qF (fun a S => ?_)
        refine ofC (off := 21) (⟨⟨K, h.fr, h.tt, h.ep, h.nu, 0, zM, false, [], (rN L h.st 1).2 == 1, (rN L (rN L h.st 1).1 4).2 - 2147483648, 0, []⟩, none, 0, none, 0, none, 0, none, 0, none, 0, none, 0⟩) H.toOfT S (fun a w S H kk => ?_) H.ow
        replace S : Sx a 205 (obS w0 K A n c) := S.sub (allC rfl (allC rfl (allC rfl (allC rfl (allC rfl (allC rfl allN))))))
        refine wpList_nil ?_
        show Code.wp _ _ _ _ _
        refine wp_seq (wp_region_lit ?_)
        refine ofN 4 I H S (fun a w S H kk => ?_)
        refine qAs (fun a S => ?_)
        replace S : Sx a 205 ((8, gv true (.int .i64 (rN L (rN L (rN L h.st 1).1 4).1 4).2)) :: obS w0 K A n c) := S.sub (allC rfl (allC rfl (allC rfl (allC rfl (allC rfl (allC rfl (allC rfl allN)))))))
        refine wpList_nil ?_
        show Code.wp _ _ _ _ _
        refine wp_seq (wp_region_lit ?_)
        refine qMv (fun a S => ?_)
        have hx0 := rN_range I.hb (rN L (rN L h.st 1).1 4).1 4
        have wra : IntKind.i64.wrap ((rN L (rN L (rN L h.st 1).1 4).1 4).2 - 2147483647) = (rN L (rN L (rN L h.st 1).1 4).1 4).2 - 2147483647 := IntWalk.i64_in _ (by omega)
        have wrb : IntKind.i64.wrap ((rN L (rN L (rN L h.st 1).1 4).1 4).2 - 2147483647 - 1) = (rN L (rN L (rN L h.st 1).1 4).1 4).2 - 2147483648 := by rw [IntWalk.i64_in _ (by omega)]; omega
        refine sx1 156 S (.int .i64 ((rN L (rN L (rN L h.st 1).1 4).1 4).2 - 2147483647)) (wantN rfl _) rfl (fun _ => rfl) (fun ev ec e => by go_simp; try rfl) ?_; intro a S
        refine sx1 157 S (.int .i64 ((rN L (rN L (rN L h.st 1).1 4).1 4).2 - 2147483648)) (wantN rfl _) rfl (fun _ => rfl) (fun ev ec e => by go_simp; try rfl) ?_; intro a S
        clear wra wrb hx0
        refine qF (fun a S => ?_)
        refine qF (fun a S => ?_)
        refine ofC (off := 22) (⟨⟨K, h.fr, h.tt, h.ep, h.nu, 0, zM, false, [], (rN L h.st 1).2 == 1, (rN L (rN L h.st 1).1 4).2 - 2147483648, (rN L (rN L (rN L h.st 1).1 4).1 4).2 - 2147483648, []⟩, none, 0, none, 0, none, 0, none, 0, none, 0, none, 0⟩) H.toOfT S (fun a w S H kk => ?_) H.ow
        replace S : Sx a 205 (obS w0 K A n c) := S.sub (allC rfl (allC rfl (allC rfl (allC rfl (allC rfl (allC rfl allN))))))
        refine wpList_nil ?_
        show Code.wp _ _ _ _ _
        refine wp_seq (wp_region_lit ?_)
        refine ofN 1 I H S (fun a w S H kk => ?_)
        refine qAs (fun a S => ?_)
        replace S : Sx a 205 ((8, gv true (.int .i64 (rN L (rN L (rN L (rN L h.st 1).1 4).1 4).1 1).2)) :: obS w0 K A n c) := S.sub (allC rfl (allC rfl (allC rfl (allC rfl (allC rfl (allC rfl (allC rfl allN)))))))
        refine wpList_nil ?_
        show Code.wp _ _ _ _ _
        obtain ⟨N, hN⟩ : ∃ N : Nat, (rN L (rN L (rN L (rN L h.st 1).1 4).1 4).1 1).2 = (N : Int) := ⟨(rN L (rN L (rN L (rN L h.st 1).1 4).1 4).1 1).2.toNat, by have := (rN_range I.hb (rN L (rN L (rN L h.st 1).1 4).1 4).1 1).1; omega⟩
        have hN8 : (N : Int) < ((256 ^ 1 : Nat) : Int) := by rw [← hN]; exact (rN_range I.hb _ 1).2
        replace hN8 : N < 256 := by omega
        rw [hN] at S
        refine wp_seq (wp_region_lit ?_)
        refine sx0 S (.int .i64 ((0 : Nat) : Int)) (wantN rfl _) rfl (by decide) (fun _ => by go_simp; try rfl) ?_; intro a S
        refine wpList_nil ?_
        show Code.wp _ _ _ _ _
        obtain ⟨i0, hi0, hz0, hz1, hz2⟩ := info_parts infoU32
        refine wp_block ?_
        refine wp_loop_ghost (fun k a wx => ∃ (i : Nat) (st : Option Nat) (acc : List Nat) (D : Option Addr) (dc : Nat), k = N - i ∧ i ≤ N ∧ Sx a 205 ((11, gv true (.int .i64 (i : Int))) :: (8, gv true (.int .i64 (N : Int))) :: obS w0 K A n c) ∧ OfS w0 A n c ⟨⟨K, h.fr, h.tt, h.ep, h.nu, 0, zM, false, [], (rN L h.st 1).2 == 1, (rN L (rN L h.st 1).1 4).2 - 2147483648, (rN L (rN L (rN L h.st 1).1 4).1 4).2 - 2147483648, acc⟩, none, 0, none, 0, none, 0, none, 0, none, 0, D, dc⟩ st wx ∧ acc.length = i ∧ lpN L N (rN L (rN L (rN L (rN L h.st 1).1 4).1 4).1 1).1 [] = lpN L (N - i) st acc) N ⟨0, _, [], none, 0, rfl, Nat.zero_le _, S, H, rfl, rfl⟩ ?_
        rintro k a w ⟨i, st, acc, D, dc, rfl, hi2, S, H, hl, hlp⟩
        refine wp_seq (wp_seq (wp_region_lit ?_))
        refine qMv (fun a S => ?_)
        refine qMv (fun a S => ?_)
        refine sx2 166 167 S (.bool (decide ((i : Int) < (N : Int)))) (wantN rfl _) rfl rfl (fun _ => rfl) (fun _ => rfl) (fun ev ec e e2 => by go_simp; try rfl) ?_; intro a S
        refine qMv (fun a S => ?_)
        refine qF (fun a S => ?_)
        refine qL H.k7 (hv := rdv_ok' A n c st) (fun a S => ?_)
        refine qAnd (fun a S => ?_)
        refine wpList_nil ?_
        show Code.wp _ _ _ _ _
        refine wp_cond_split (S.fx 172 _ rfl) (fun ht => ?_) (fun hf => ?_)
        · obtain ⟨hlt, p, rfl⟩ := lp_on ht
          replace S : Sx a 205 ((11, gv true (.int .i64 (i : Int))) :: (8, gv true (.int .i64 (N : Int))) :: obS w0 K A n c) := S.sub (allC rfl (allC rfl (allC rfl (allC rfl (allC rfl (allC rfl (allC rfl (allC rfl allN))))))))
          refine wp_skip ?_
          show Code.wp _ _ _ _ _
          refine wp_seq (wp_block ?_)
          refine wp_seq (wp_region_lit ?_)
          refine sx0 S (.int .i64 0) (wantN rfl _) rfl (by decide) (fun _ => by go_simp; try rfl) ?_; intro a S
          refine wpList_nil ?_
          show Code.wp _ _ _ _ _
          refine wp_seq (wp_region_lit ?_)
          refine ofN 4 I H S (fun a w S H kk => ?_)
          refine qAs (fun a S => ?_)
          replace S : Sx a 205 ((12, gv true (.int .i64 (rN L (some p) 4).2)) :: (11, gv true (.int .i64 (i : Int))) :: (8, gv true (.int .i64 (N : Int))) :: obS w0 K A n c) := S.sub (allC rfl (allC rfl (allC rfl (allC rfl (allC rfl (allC rfl (allC rfl (allC rfl (allC rfl allN)))))))))
          refine wpList_nil ?_
          show Code.wp _ _ _ _ _
          refine wp_region_lit ?_
          refine qF (fun a S => ?_)
          refine qL H.k6 (fun a S => ?_)
          refine qMv (fun a S => ?_)
          have hx0 := rN_range I.hb (some p) 4
          have cvx : IntKind.u32.wrap (rN L (some p) 4).2 = ((((rN L (some p) 4).2).toNat : Nat) : Int) := by rw [IntKind.wrap_u32']; omega
          refine sx1 182 S (.int .u32 ((((rN L (some p) 4).2).toNat : Nat) : Int)) (wantN rfl _) rfl (fun _ => rfl) (fun ev ec e => by go_simp; try rfl) ?_; intro a S
          refine sxW S (.slice (some ⟨w.heap.size, 0, none⟩) 1 1) (w.alloc (.cells #[.int .u32 ((((rN L (some p) 4).2).toNat : Nat) : Int)] 52)) (wantN rfl _) (runG 183 S rfl rfl (fun ev ec ef e => by go_simp; try simp)) ?_; intro a S
          refine ofP i0 _ 1 4 Try.underlying22 hi0 hz0 hz1 hz2 rfl (by omega) H S H.ow.2.2 rfl (by simp [Value.oneCell']) (by show acc.length ≤ 100000; omega) (by omega) (fun a w D' dc' S H hor => ?_)
          refine qF (fun a S => ?_)
          have hl1 : (acc ++ [(rN L (some p) 4).2.toNat]).length = acc.length + 1 := by simp
          refine ofC (off := 23) (⟨⟨K, h.fr, h.tt, h.ep, h.nu, 0, zM, false, [], (rN L h.st 1).2 == 1, (rN L (rN L h.st 1).1 4).2 - 2147483648, (rN L (rN L (rN L h.st 1).1 4).1 4).2 - 2147483648, (acc ++ [(rN L (some p) 4).2.toNat])⟩, none, 0, none, 0, none, 0, none, 0, none, 0, D', dc'⟩) H S (fun a w S H kk => ?_) ⟨⟨OwD.one _ _, OwD.one _ _, OwD.one _ _, OwD.one _ _⟩, World.ownsRow_nil _ _ _ _, by dsimp only; rw [hl1, ← ints_snocU]; exact hor⟩ (by unfold mA; dsimp only; rw [hl1]; rfl)
          replace S : Sx a 205 ((11, gv true (.int .i64 (i : Int))) :: (8, gv true (.int .i64 (N : Int))) :: obS w0 K A n c) := S.sub (allC rfl (allC rfl (allC rfl (allC rfl (allC rfl (allC rfl (allC rfl (allC rfl allN))))))))
          refine wpList_nil ?_
          show Code.wp _ _ _ _ _
          refine wp_region_lit ?_
          refine qMv (fun a S => ?_)
          refine sx1 173 S (.int .i64 (((i + 1 : Nat)) : Int)) (wantN rfl _) rfl (fun _ => rfl) (fun ev ec e => by have hw : IntKind.i64.wrap ((i : Int) + 1) = ((i + 1 : Nat) : Int) := IntWalk.i64_in _ (by omega); go_simp; try rfl) ?_; intro a S
          refine qAs (fun a S => ?_)
          refine wpList_nil ?_
          show ∃ n', _
          exact ⟨N - (i + 1), by omega, i + 1, _, _, _, _, rfl, by omega, S.sub (allC rfl (allC rfl (allC rfl (allC rfl (allC rfl (allC rfl (allC rfl (allC rfl allN)))))))), H, by rw [hl1, hl], by rw [hlp, show N - i = (N - (i + 1)) + 1 by omega]; rfl⟩
        · refine wp_exit ?_
          refine then_exit (then_exit (inBlock_exit ?_))
          show ∃ _, _
          refine ⟨_, _, S.sub (allC rfl (allC rfl (allC rfl (allC rfl (allC rfl (allC rfl allN)))))), H, ?_⟩
          have hs := hlp.trans (lpN_stop (by rw [lp_off hf]))
          have hk := hk.out; have hh := hh.out; subst hk hh
          show ((lpN L (rN L (rN L (rN L (rN L (hdR L).st 1).1 4).1 4).1 1).2.toNat (rN L (rN L (rN L (rN L (hdR L).st 1).1 4).1 4).1 1).1 []).1, (⟨6, _, _, _, _, 0, zM, false, [], _, _, _, (lpN L (rN L (rN L (rN L (rN L (hdR L).st 1).1 4).1 4).1 1).2.toNat (rN L (rN L (rN L (rN L (hdR L).st 1).1 4).1 4).1 1).1 []).2⟩ : Ml)) = _
          rw [hN, Int.toNat_natCast, hs]
      refine wp_skip ?_
      show ∃ _, _
      refine ⟨_, _, S.sub (allC rfl (allC rfl (allC rfl (allC rfl (allC rfl (allC rfl allN)))))), H, ?_⟩
      simp only [beq_eq_false_iff_ne, Bool.or_eq_false_iff, ne_eq] at hf hg hi hj
      replace hh := hh.out
      by_cases h4 : K = 4
      · subst h4 hh
        rfl
      · subst hh
        simp only [dec, if_neg hf, if_neg hg.1, if_neg hg.2, if_neg h4, if_neg hi, if_neg hj, stA, abA, r0, if_neg (show ¬ (K = 3 ∨ K = 4) from fun h => h.elim hg.2 h4)]
  have hsm : smL r.x := by have := dec_smU (K := K) I.hb; rw [hd] at this; exact this
  have hlt : ltL r.x := by have := dec_ltU (K := K) I.hb; rw [hd] at this; exact this
  have hcv : ∀ w', Below w0.heap.size w0 w' → (convert 34 9 (.slice A n c)).run Try.prog w' = .ok (.string (strOf (L.map Int.toNat))) w' := fun w' hw => conv_str (by rw [List.length_map, I.hn]) (fun b hb => by obtain ⟨z, hz, rfl⟩ := List.mem_map.1 hb; have := I.hb z hz; omega) (by rw [← u8s_bytes (fun b hb => (I.hb b hb).1)]; exact I.hR.below hw)
  have inj : ((strOf (byP r.x)).toList == (strOf (L.map Int.toNat)).toList) = decide (byP r.x = L.map Int.toNat) := strOf_inj (byP_lt _) (fun b hb => by obtain ⟨z, hz, rfl⟩ := List.mem_map.1 hb; have := I.hb z hz; omega)
  refine wp_seq (wp_seq (wp_region_noPanic ?_))
  refine wp_region_held_drew (S := fun w' => OfS w0 A n c r st w') (by kernel_rfl) H.drew (fun H => ?_)
  refine hx1 7 S (.pointer (some ⟨w0.heap.size + 2, 2, none⟩)) (i := 0) rfl rfl (fun w' hw ev ec e => by go_simp; try rfl) H ?_ (by kernel_rfl) (by kernel_rfl) (by kernel_rfl)
  intro a S
  refine hx1 187 S (.bool st.isSome) (i := 1) rfl rfl (fun w' hw ev ec e => by have s0 := (hw.k7.cell 2).trans (rdv_ok A n c st); go_simp; try rfl) H ?_ (by kernel_rfl) (by kernel_rfl) (by kernel_rfl)
  intro a S
  refine hx1 188 S (.bool (!st.isSome)) (i := 2) rfl rfl (fun w' hw ev ec e => by go_simp; try rfl) H ?_ (by kernel_rfl) (by kernel_rfl) (by kernel_rfl)
  intro a S
  refine hx1 189 S (.bool (!st.isSome)) (i := 3) rfl rfl (fun w' hw ev ec e => by go_simp; try rfl) H ?_ (by kernel_rfl) (by kernel_rfl) (by kernel_rfl)
  intro a S
  refine hxG 6 S (.agg (mA r)) (i := 4) rfl (wG S rfl rfl (by decide) rfl) rfl (fun _ => rfl) (fun w' hw ev ec e => run_load_row 31 _ rfl _ e (mA r) 31 _ hw.k6 Try.underlying31 rfl (by kernel_rfl)) H ?_ (by kernel_rfl) (by kernel_rfl) (by kernel_rfl)
  intro a S
  refine wpAnyH_ready (rs := [5]) (by kernel_rfl) (by simp) (AllReadyH.cons rfl ?_ AllReadyH.nil)
  refine hKG (fun b : Bool => .bool b) true S 31 #[aggL r] (fun b w' => (b = true ↔ okL r.x) ∧ Below w.drew.heap.size w.drew w') (wG S rfl rfl (by decide) rfl) H (fun e => runG 191 S rfl e (fun ev ec ef e => by go_simp; try rfl)) (fun e => (rlmay_any r hsm w.drew (OwL.rd H.ow)).mono (fun en w' ⟨R, h1, h2, h3⟩ => ⟨R, h1, h2, h3⟩)) (fun x w' hh => H.below hh.2) ?_
  intro a w1 Rm hRm H S
  refine hxG 192 S (.bool (!Rm)) (i := 6) rfl (wG S rfl rfl (by decide) rfl) rfl id (fun w' hw ev ec e => by go_simp; try rfl) H ?_ (by kernel_rfl) (by kernel_rfl) (by kernel_rfl)
  intro a S
  refine hxOr (i := 7) S rfl rfl rfl (fun h => by rw [h]; rfl) H ?_ (by kernel_rfl) (by kernel_rfl) (by kernel_rfl)
  intro a S
  refine hx1 194 S (.bool (!st.isSome || !Rm)) (i := 8) rfl rfl (fun w' hw ev ec e => by go_simp; try rfl) H ?_ (by kernel_rfl) (by kernel_rfl) (by kernel_rfl)
  intro a S
  refine hxG 6 S (.agg (mA r)) (i := 9) rfl (wG S rfl rfl (by decide) rfl) rfl (fun _ => rfl) (fun w' hw ev ec e => run_load_row 31 _ rfl _ e (mA r) 31 _ hw.k6 Try.underlying31 rfl (by kernel_rfl)) H ?_ (by kernel_rfl) (by kernel_rfl) (by kernel_rfl)
  intro a S
  refine hxG 1 S (.slice A n c) (i := 12) rfl (wG S rfl rfl (by decide) rfl) rfl (fun _ => rfl) (fun w' hw ev ec e => by go_simp; try rfl) H ?_ (by kernel_rfl) (by kernel_rfl) (by kernel_rfl)
  intro a S
  refine hxG 199 S (.string (strOf (L.map Int.toNat))) (i := 13) rfl (wG S rfl rfl (by decide) rfl) rfl id (fun w' hw ev ec e => by have hc := hcv w' hw.hB; go_simp; try rfl) H ?_ (by kernel_rfl) (by kernel_rfl) (by kernel_rfl)
  intro a S
  have gok : (true && ((!st.isSome || !Rm) == false)) = true → okL r.x := fun e => by
    cases hs : st.isSome
    · rw [hs] at e; cases e
    · cases Rm
      · rw [hs] at e; cases e
      · exact (hRm (by rw [hs]; rfl)).1.1 rfl
  refine wpAnyH_ready (rs := [10]) (by kernel_rfl) (by simp) (AllReadyH.cons rfl ?_ AllReadyH.nil)
  refine hKG (fun x : Option Addr × Nat => .slice x.1 (total (conP r.x)) x.2) (none, 0) S 66 #[aggL r] (fun x w' => w'.ownsRow w1.heap.size 5 1 (.slice x.1 (total (conP r.x)) x.2) (total (conP r.x)) (u8s (flat (conP r.x))) ∧ Below w1.heap.size w1 w') (wG S rfl rfl (by decide) rfl) H (fun e => runG 196 S rfl e (fun ev ec ef e => by go_simp; try rfl)) (fun e => (hcon r w1 (gok e) hlt (OwL.rd H.ow)).mono (fun en w' ⟨X, cc, h1, h2, h3⟩ => ⟨(X, cc), h1, h2, h3⟩)) (fun x w' hh => H.below hh.2) ?_
  intro a w2 ⟨X, cc⟩ hcx H S
  refine wpAnyH_ready (rs := [11]) (by kernel_rfl) (by simp) (AllReadyH.cons rfl ?_ AllReadyH.nil)
  refine hVG S (.string (strOf (byP r.x))) (wG S rfl rfl (by decide) rfl) H (fun e => runG 197 S rfl e (fun ev ec ef e2 => by have hc := conv_str (c := cc) (byP_len r.x) (byP_lt r.x) (by rw [show bytes (byP r.x) = u8s (flat (conP r.x)) from (u8s_bytes (fun b hb => (flat_byte _ b hb).1)).symm]; exact Reads.of_own (hcx e).1); go_simp; try rfl)) ?_
  intro a S
  refine hxG2 198 200 S (.bool (!decide (byP r.x = L.map Int.toNat))) (i := 14) rfl (wG S rfl rfl (by decide) rfl) rfl rfl id id (fun w' hw ev ec e e2 => by rw [← inj]; go_simp; try rfl) H ?_ (by kernel_rfl) (by kernel_rfl) (by kernel_rfl)
  intro a S
  refine hxOr (i := 15) S rfl rfl rfl (fun h => by rw [h]; rfl) H ?_ (by kernel_rfl) (by kernel_rfl) (by kernel_rfl)
  intro a S
  refine wpAnyH_done (by kernel_rfl) ?_ _
  refine NoPanic.normal ?_
  show Code.wp _ _ _ _ _
  refine wp_cond_split (S.fx 202 _ rfl) (fun ht => ?_) (fun hf => ?_)
  · refine wp_seq (wp_region_lit ?_)
    refine sx0 S (.agg z24) (wantN rfl _) rfl (by decide) (fun _ => by go_simp; try rfl) ?_; intro a S
    refine sxS (x := 4) (y := 203) S (w2.setRow w0.heap.size z24) rfl rfl (fun ev e e2 => run_store_row 31 _ _ rfl _ e z24 e2 31 z24 H.k4 (by kernel_rfl) rfl (by simp [Value.oneCell'])) ?_; intro a S
    refine sx0 S (.bool false) (wantN rfl _) rfl (by decide) (fun _ => by go_simp; try rfl) ?_; intro a S
    refine wpList_nil ?_
    show Code.wp _ _ _ _ _
    refine wp_ret ?_
    show bodyPost _ _ _ .ret a _
    refine bodyPost_ret (results_row_slot rfl _ _ w0.heap.size 31 z24 (0, 0) _ (S.fx 4 _ rfl) (H.k4.setRow z24).row Try.underlying31 rfl (by kernel_rfl)) S.df ?_
    rw [show a.tmps.getD 5 undef = _ from S.fx 5 _ rfl]
    refine ⟨below_setRow H.hB (Nat.le_refl _) _, zeroO, false, rfl, ⟨⟨OwD.one _ _, OwD.one _ _, OwD.one _ _, OwD.one _ _⟩, World.ownsRow_nil _ _ _ _, World.ownsRow_nil _ _ _ _⟩, .inr ⟨rfl, rfl, fun m hm => ?_⟩⟩
    obtain ⟨h1, h2, h3, h4⟩ := hm
    rw [hd] at h1 h2
    subst h2
    have hs : st.isSome = true := h1
    have hR1 := (hRm (by rw [hs]; rfl)).1.2 h3
    rw [hs, hR1, decide_eq_true ((flat_eqU I.hb r.x).2 h4)] at ht
    cases ht
  · refine wp_skip ?_
    show Code.wp _ _ _ _ _
    refine wp_seq (wp_region_lit ?_)
    refine sx1 6 S (.agg (mA r)) (wantN rfl _) rfl (fun _ => rfl) (fun ev ec e => run_load_row 31 _ rfl _ e (mA r) 31 _ H.k6 Try.underlying31 rfl (by kernel_rfl)) ?_; intro a S
    refine sxS (x := 4) (y := 204) S (w2.setRow w0.heap.size (mA r)) rfl rfl (fun ev e e2 => run_store_row 31 _ _ rfl _ e (mA r) e2 31 z24 H.k4 (by kernel_rfl) rfl (by simp [Value.oneCell'])) ?_; intro a S
    refine sx0 S (.bool true) (wantN rfl _) rfl (by decide) (fun _ => by go_simp; try rfl) ?_; intro a S
    refine wpList_nil ?_
    show Code.wp _ _ _ _ _
    refine wp_ret ?_
    show bodyPost _ _ _ .ret a _
    refine bodyPost_ret (results_row_slot rfl _ _ w0.heap.size 31 (mA r) (0, 0) _ (S.fx 4 _ rfl) (H.k4.setRow (mA r)).row Try.underlying31 rfl (by kernel_rfl)) S.df ?_
    rw [show a.tmps.getD 5 undef = _ from S.fx 5 _ rfl]
    obtain ⟨h1, h2, h3⟩ : st.isSome = true ∧ Rm = true ∧ byP r.x = L.map Int.toNat := by simpa [and_assoc] using hf
    refine ⟨below_setRow H.hB (Nat.le_refl _) _, r, true, rfl, ?_, .inl ⟨rfl, ?_⟩⟩
    · exact (H.ow.setRow (by omega) _).base_le (by omega)
    · exact ⟨by rw [hd]; exact h1, by rw [hd], (hRm (by rw [h1]; rfl)).1.1 h2, (flat_eqU I.hb r.x).1 h3⟩
end Go.Proofs.Ytjmhefkmpfkpbaa
