/- Flight: each of the answers is one -/
import Derived.Test.YtdmjdpaehnhdoaaLT
import Derived.Test.YtdmjdpaehnhdoaaLQ
namespace Go.Proofs.Ytdmjdpaehnhdoaa
open Go.ChangeShapes Go.WideShapes Go.ChangeAt Go.RowKit
set_option linter.unusedSimpArgs false
set_option linter.unusedVariables false
theorem chk_one {l : List En} {E E' : Int} (h : ChkF l E) (h' : ChkF l E') : E = E' := by
  rcases h.has with ⟨rfl, a⟩ | ⟨rfl, a, b⟩ | ⟨rfl, a, b⟩ <;> rcases h'.has with ⟨rfl, a'⟩ | ⟨rfl, a', b'⟩ | ⟨rfl, a', b'⟩ <;> first | rfl | omega | exact absurd b b' | exact absurd b' b
theorem num_one {l : List En} (h : goodF l) {j k : Nat} {x y : En} (hx : l[j]? = some x) (hy : l[k]? = some y) (e : x.nu = y.nu) : j = k := by
  rcases Nat.lt_trichotomy j k with h1 | h1 | h1
  · have := lastN_lt h k j x y h1 hx hy; omega
  · exact h1
  · have := lastN_lt h j k y x h1 hy hx; omega
theorem dbl_one {l l1 l2 : List En} {N E1 E2 : Int} (h : DblF l N l1 E1) (h' : DblF l N l2 E2) : l1 = l2 ∧ E1 = E2 := by
  rcases h with ⟨a, b, rfl⟩ | ⟨a, b, rfl, rfl⟩ | ⟨a, b, c⟩ <;> rcases h' with ⟨a', b', rfl⟩ | ⟨a', b', rfl, rfl⟩ | ⟨a', b', c'⟩
  · exact ⟨rfl, chk_one a a'⟩
  · exact absurd (chk_one a a') b
  · exact absurd (chk_one a a') b
  · exact absurd (chk_one a' a) b'
  · exact ⟨rfl, rfl⟩
  · exact absurd b' b
  · exact absurd (chk_one a' a) b'
  · exact absurd b b'
  · rcases c with ⟨k, x, hx, hn, c⟩ | ⟨hno, rfl, rfl⟩ <;> rcases c' with ⟨k', x', hx', hn', c'⟩ | ⟨hno', rfl, rfl⟩
    · obtain rfl := num_one a.good hx hx' (by rw [hn, hn'])
      rw [hx] at hx'
      injection hx' with hx'
      subst hx'
      rcases c with ⟨p, rfl, rfl⟩ | ⟨p, rfl, rfl⟩ <;> rcases c' with ⟨p', rfl, rfl⟩ | ⟨p', rfl, rfl⟩
      · exact ⟨rfl, rfl⟩
      · exact absurd p p'
      · exact absurd p' p
      · exact ⟨rfl, rfl⟩
    · exact absurd hn (hno' _ _ hx)
    · exact absurd hn' (hno _ _ hx')
    · exact ⟨rfl, rfl⟩
theorem lch_one {l l1 l2 : List En} {N e E1 E2 : Int} {m : Ms} (h : LchF l N e m l1 E1) (h' : LchF l N e m l2 E2) : l1 = l2 ∧ E1 = E2 := by
  rcases h with ⟨a, b, rfl⟩ | ⟨a, b, rfl, rfl⟩ | ⟨a, b, c⟩ <;> rcases h' with ⟨a', b', rfl⟩ | ⟨a', b', rfl, rfl⟩ | ⟨a', b', c'⟩
  · exact ⟨rfl, chk_one a a'⟩
  · exact absurd (chk_one a a') b
  · exact absurd (chk_one a a') b
  · exact absurd (chk_one a' a) b'
  · exact ⟨rfl, rfl⟩
  · exact absurd b' b
  · exact absurd (chk_one a' a) b'
  · exact absurd b b'
  · rcases c with ⟨c, rfl, rfl⟩ | ⟨c, d⟩ <;> rcases c' with ⟨c', rfl, rfl⟩ | ⟨c', d'⟩
    · exact ⟨rfl, rfl⟩
    · exact absurd c' c
    · exact absurd c c'
    · rcases d with ⟨d, rfl, rfl⟩ | ⟨d, f⟩ <;> rcases d' with ⟨d', rfl, rfl⟩ | ⟨d', f'⟩
      · exact ⟨rfl, rfl⟩
      · rw [d] at d'; cases d'
      · rw [d] at d'; cases d'
      · rcases f with ⟨⟨k, x, hx, hn⟩, rfl, rfl⟩ | ⟨f, g⟩ <;> rcases f' with ⟨⟨k', x', hx', hn'⟩, rfl, rfl⟩ | ⟨f', g'⟩
        · exact ⟨rfl, rfl⟩
        · exact absurd hn (f' _ _ hx)
        · exact absurd hn' (f _ _ hx')
        · rcases g with ⟨g, rfl, rfl⟩ | ⟨g, rfl, rfl⟩ <;> rcases g' with ⟨g', rfl, rfl⟩ | ⟨g', rfl, rfl⟩ <;> first | exact ⟨rfl, rfl⟩ | omega
end Go.Proofs.Ytdmjdpaehnhdoaa
