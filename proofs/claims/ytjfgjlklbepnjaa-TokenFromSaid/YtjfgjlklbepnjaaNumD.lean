/- A number's text: the functions walked. No condition. -/
import Derived.Test.YtjfgjlklbepnjaaBytes
import Derived.Test.YtjfgjlklbepnjaaNumS
import Derived.Laws.BytesArg
namespace Go.Proofs.Ytjfgjlklbepnjaa
open Go.RowKit
set_option linter.unusedSimpArgs false
set_option linter.unusedVariables false

/-- The string of so many bytes. -/
def txt (l : List Nat) : ByteArray := ⟨(l.map UInt8.ofNat).toArray⟩
theorem txt_nums (l : List Nat) : strOfNums (l.map fun x => ((x : Nat) : Int)) = txt l := by
  unfold strOfNums txt
  simp [Function.comp_def]

/-- The row of a text while it is filled from its end: from place a on stands D. -/
def endC (D : List Nat) (a j : Nat) : Int := if a ≤ j then atI D (j - a) else 0

theorem txt_app (a b : List Nat) : txt a ++ txt b = txt (a ++ b) := by
  apply ByteArray.ext
  simp [txt, ByteArray.data_append]
theorem txt_size (l : List Nat) : (txt l).size = l.length := by simp [txt, ByteArray.size]
theorem decF_len : ∀ (f n : Nat), (decF f n).length ≤ f
  | 0, _ => by simp [decF]
  | f + 1, n => by
    rw [decF]
    split
    · simp
    · have := decF_len f (n / 10); simp; omega
theorem dig_cut {k : Nat} (h : k < 10) : (⟨#[48, 49, 50, 51, 52, 53, 54, 55, 56, 57]⟩ : ByteArray).extract k (k + 1) = txt [48 + k] := by
  match k, h with
  | 0, _ | 1, _ | 2, _ | 3, _ | 4, _ | 5, _ | 6, _ | 7, _ | 8, _ | 9, _ => rfl
  | n + 10, h => omega

end Go.Proofs.Ytjfgjlklbepnjaa
