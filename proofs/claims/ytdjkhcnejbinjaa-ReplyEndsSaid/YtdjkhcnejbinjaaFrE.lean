/- Frames made; the layer's fixed calls, walked. No condition beyond what the memory holds. -/
import Derived.Test.YtdjkhcnejbinjaaFrD
import Derived.Test.YtdjkhcnejbinjaaNumA
namespace Go.Proofs.Ytdjkhcnejbinjaa
open Go.RowKit
set_option linter.unusedSimpArgs false
set_option linter.unusedVariables false

def frameL (m : List Nat) : List Nat := [m.length / 256, m.length % 256] ++ m
theorem list_ext_at {l m : List Nat} (h : l.length = m.length) (he : ∀ j, j < l.length → atI l j = atI m j) : l = m := by
  refine List.ext_getElem h fun j h1 h2 => ?_
  have := he j h1
  simp only [atI, List.getD] at this
  rw [List.getElem?_eq_getElem h1, List.getElem?_eq_getElem h2] at this
  simp only [Option.getD_some] at this
  omega
theorem sameL (l m : List Nat) : sameF l.length m.length (atI l) (atI m) = decide (l = m) := by
  by_cases h : l = m
  · subst h; rw [sameF_true rfl (fun _ _ => rfl)]; simp
  · rw [decide_eq_false h]
    by_cases hl : l.length = m.length
    · by_cases he : ∀ j, j < l.length → atI l j = atI m j
      · exact absurd (list_ext_at hl he) h
      · simp only [Classical.not_forall] at he
        obtain ⟨j, hj, hne⟩ := he
        exact sameF_at hj hne
    · exact sameF_len hl
theorem lsame_any (A A' : Option Addr) (l m : List Nat) (c c' : Nat) (w : World) (ha : Reads .u8 w w.heap.size A l.length (atI l)) (hb : Reads .u8 w w.heap.size A' m.length (atI m)) (hn : l.length ≤ 9223372036854775807) (hn' : m.length ≤ 9223372036854775807) :
    Calls Try.prog 11 #[.slice A l.length c, .slice A' m.length c'] w fun e w' => e = .returned (.bool (decide (l = m))) ∧ Below w.heap.size w w' := by
  have := same_any A A' l.length m.length c c' (atI l) (atI m) w ha hb hn hn'
  rw [sameL] at this
  exact this
end Go.Proofs.Ytdjkhcnejbinjaa
