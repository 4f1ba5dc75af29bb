/- Mail: the chapter's examples -/
import Derived.Test.YtjmhefkmpfkpbaaPS
import Derived.Test.YtjmhefkmpfkpbaaBackP
namespace Go.Proofs.Ytjmhefkmpfkpbaa
open Go.ChangeShapes Go.WideShapes Go.ChangeAt Go.RowKit
set_option linter.unusedSimpArgs false
set_option linter.unusedVariables false
theorem takeF {k : Nat} {l : List Nat} (hk : k < 256) (hl : ∀ b ∈ l, b < 256) (hm : l.length ≤ 4096) {v : Value} {w0 w : World} (ho : Owns w0 w v (framed k l)) : Calls Try.prog 23 #[v] w fun en w' => (∃ A n c, en = .returned (.tuple #[.int .u8 (k : Int), .slice A n c, .int .i64 0]) ∧ n = l.length ∧ n ≤ c ∧ Reads w' w'.heap.size 1 A n (bytes l)) ∧ Below w.heap.size w w' := by
  obtain ⟨A, c, rfl, hc, hR⟩ := ho.slice
  have hb : ∀ b ∈ framed k l, b < 256 := fun b hb => by
    unfold framed at hb
    rcases List.mem_append.1 hb with h | h
    · exact headed_lt hk hm hl b h
    · exact told_lt (crc_lt _) b h
  refine (take_any A (framed k l).length c (framed k l) rfl (by rw [framed_len]; omega) hc hb w hR).mono ?_
  rintro en w' ⟨⟨_, _, _, _, h⟩ | ⟨_, A2, c2, rfl, hc2, hR2⟩, hb2⟩
  · exact absurd (framed_ok hm) h
  · rw [framed_content] at hR2 hc2
    exact ⟨⟨A2, _, c2, by rw [framed_kind, framed_content], rfl, hc2, hR2⟩, hb2⟩
theorem strV {w0 w : World} {v : Value} {l : List Nat} (hl : ∀ b ∈ l, b < 256) (ho : Owns w0 w v l) : ∀ w', Below w.heap.size w w' → (convert 34 9 v).run Try.prog w' = .ok (.string (strOf l)) w' := by
  obtain ⟨A, c, rfl, _, hR⟩ := ho.slice
  exact fun w' hw => conv_str rfl hl (hR.below hw)
theorem framed_lt {k : Nat} {l : List Nat} (hk : k < 256) (hm : l.length ≤ 4096) (hl : ∀ b ∈ l, b < 256) : ∀ b ∈ framed k l, b < 256 := fun b hb => by
  unfold framed at hb
  rcases List.mem_append.1 hb with h | h
  · exact headed_lt hk hm hl b h
  · exact told_lt (crc_lt _) b h
def busyL : Ml := ⟨4, 0, 1, 0, 0, 2, ⟨zd, zd, zd, zd⟩, false, [], false, 0, 0, []⟩
theorem rises_nil : rises [] := fun i h => by simp at h
theorem push_ok : okL pushL := ⟨⟨by decide, by decide, ⟨by decide, by decide⟩, by decide, by decide, by decide, by decide, by decide, by decide⟩, by decide, by decide, by decide, ⟨rises_nil, by decide⟩, rfl⟩
theorem busy_ok : okL busyL := ⟨⟨by decide, by decide, ⟨by decide, by decide⟩, by decide, by decide, by decide, by decide, by decide, by decide⟩, by decide, by decide, by decide, ⟨rises_nil, by decide⟩, rfl⟩
theorem push_by : byP pushL = [1, 2, 0, 3, 0, 0, 4, 0, 0, 0, 1, 0, 0, 0, 6, 0, 0, 0, 1, 0, 0, 0, 1] := by decide
theorem busy_by : byP busyL = [0, 1, 0, 0, 0, 0, 0, 0, 0, 2] := by decide
theorem push_sm : smL pushL := ⟨⟨by decide, by decide, by decide, by decide⟩, by decide, by decide⟩
theorem busy_sm : smL busyL := ⟨⟨by decide, by decide, by decide, by decide⟩, by decide, by decide⟩
theorem push_lt : ltL pushL := ⟨⟨by decide, by decide, by decide, by decide⟩, by decide⟩
theorem busy_lt : ltL busyL := ⟨⟨by decide, by decide, by decide, by decide⟩, by decide⟩
def busyO : MO := ⟨busyL, none, 0, none, 0, none, 0, none, 0, none, 0, none, 0⟩
theorem busy_rd (w : World) (B : Nat) : rdL w B busyO := ⟨⟨rdD_zd _ _, rdD_zd _ _, rdD_zd _ _, rdD_zd _ _⟩, Tms.none_, Reads.none_⟩
set_option maxRecDepth 100000 in
set_option maxHeartbeats 16000000 in
theorem malive_any (w : World) : Calls Try.prog 8 #[] w fun en w' => en = .returned (.bool true) ∧ Below w.heap.size w w' := by
  go_enter Try.func8, Try.ntmps8
  go_wp2_with fail
  refine (push_any w).mono ?_
  rintro en w1 ⟨om, rfl, hx, hrd, hb1⟩
  have hw := write_any om (by rw [hx]; exact push_sm) (by rw [hx]; exact push_lt) (by rw [hx]; decide) w1 hrd
  rw [hx] at hw
  have gB1 := Lib.hid hb1
  clear hx hrd hb1
  obtain ⟨av, hav⟩ : ∃ a, aggL om = a := ⟨_, rfl⟩
  rw [hav] at hw ⊢
  clear hav
  go_wp2_with fail
  refine hw.mono ?_
  rintro en w2 ⟨hb2, ⟨hno, _⟩ | ⟨_, v2, rfl, ho2⟩⟩
  · exact absurd push_ok hno
  have ht := takeF (by decide) (byP_lt pushL) (by rw [push_by]; decide) ho2
  have gB2 := Lib.hid (gB1.out.trans (hb2.mono gB1.out.size))
  clear hw hb2 ho2 gB1
  go_wp2_with fail
  refine ht.mono ?_
  rintro en w3 ⟨⟨A3, n3, c3, rfl, hn3, hc3, hR3⟩, hb3⟩
  have gcv : Hid (∀ w', Below w3.heap.size w3 w' → (convert 34 9 (.slice A3 n3 c3)).run Try.prog w' = .ok (.string ⟨#[1, 2, 0, 3, 0, 0, 4, 0, 0, 0, 1, 0, 0, 0, 6, 0, 0, 0, 1, 0, 0, 0, 1]⟩) w') := Lib.hid (fun w' hw' => conv_str (l := [1, 2, 0, 3, 0, 0, 4, 0, 0, 0, 1, 0, 0, 0, 6, 0, 0, 0, 1, 0, 0, 0, 1]) (by rw [hn3, push_by]) (by decide) (by have := hR3.below hw'; rwa [push_by] at this))
  have gB3 := Lib.hid (gB2.out.trans (hb3.mono gB2.out.size))
  have gk : ((pushL.kd.toNat : Nat) : Int) = 1 := rfl
  rw [gk]
  clear ht hb3 hR3 hn3 hc3 gB2 gk
  have hw := write_any busyO busy_sm busy_lt (by decide) w3 (busy_rd _ _)
  go_wp2_with fail
  refine hw.mono ?_
  rintro en w4 ⟨hb4, ⟨hno, _⟩ | ⟨_, v4, rfl, ho4⟩⟩
  · exact absurd busy_ok hno
  have ht := takeF (by decide) (byP_lt busyL) (by rw [busy_by]; decide) ho4
  have gb4 := Lib.hid hb4
  clear hw hb4 ho4
  go_wp2_with fail
  refine ht.mono ?_
  rintro en w5 ⟨⟨A5, n5, c5, rfl, hn5, hc5, hR5⟩, hb5⟩
  have hb35 := gb4.out.trans (hb5.mono gb4.out.size)
  have cv3 := gcv.out w5 hb35
  have cv5 : (convert 34 9 (.slice A5 n5 c5)).run Try.prog w5 = .ok (.string ⟨#[0, 1, 0, 0, 0, 0, 0, 0, 0, 2]⟩) w5 := conv_str (l := [0, 1, 0, 0, 0, 0, 0, 0, 0, 2]) (by rw [hn5, busy_by]) (by decide) (by rwa [busy_by] at hR5)
  have gB5 := Lib.hid (gB3.out.trans (hb35.mono gB3.out.size))
  clear ht hb5 hR5 hn5 hc5 gb4 gcv gB3 hb35
  go_wp2
  go_ret
  exact ⟨rfl, gB5.out⟩
end Go.Proofs.Ytjmhefkmpfkpbaa
