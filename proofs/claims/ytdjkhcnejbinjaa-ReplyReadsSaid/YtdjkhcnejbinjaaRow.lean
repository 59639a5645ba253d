/- Slices of integers that came in. No condition. -/
import Derived.Test.YtdjkhcnejbinjaaBytes
namespace Go.Proofs.Ytdjkhcnejbinjaa
open Go.RowKit
set_option linter.unusedSimpArgs false
set_option linter.unusedVariables false

/-- What the walk is told of a slice of integers that came in: it is nil, or it leads to a row of so many cells, these numbers, each fitting its kind. -/
def IsRow (k : IntKind) (w : World) (a : Option Addr) (len cap : Nat) (zs : List Int) : Prop :=
  (a = none ∧ len = 0 ∧ cap = 0 ∧ zs = []) ∨
  ∃ x, a = some x ∧ len ≤ cap ∧ cap ≤ maxLen ∧ zs.length = cap ∧ (∀ i, i < zs.length → w.cell? (x.add i) = some (.int k (zs.getD i 0))) ∧ ∀ n ∈ zs, (Lit.int k n).wf = true
theorem maxLen_lim {n : Nat} (h : n ≤ maxLen) : n ≤ 9223372036854775807 := h
theorem row_u64 {w : World} {a : Option Addr} {len cap : Nat} {zs : List Int} (h : IsRow .u64 w a len cap zs) (j : Nat) : 0 ≤ zs.getD j 0 ∧ zs.getD j 0 ≤ 18446744073709551615 := by
  have lim : ∀ {a : Int}, (Lit.int .u64 a).wf = true → 0 ≤ a ∧ a ≤ 18446744073709551615 := fun {a} h => by
    simp only [Lit.wf, Bool.and_eq_true, decide_eq_true_eq] at h
    exact h
  rcases h with ⟨_, _, _, rfl⟩ | ⟨x, _, _, _, _, _, hw⟩
  · simp
  · by_cases hj : j < zs.length
    · exact lim (hw (zs.getD j 0) (by simp [List.getD, hj]))
    · have : zs.getD j 0 = 0 := by simp [List.getD, List.getElem?_eq_none (Nat.le_of_not_lt hj)]
      rw [this]; exact ⟨by omega, by omega⟩
theorem row_u8 {w : World} {a : Option Addr} {len cap : Nat} {zs : List Int} (h : IsRow .u8 w a len cap zs) (j : Nat) : 0 ≤ zs.getD j 0 ∧ zs.getD j 0 ≤ 255 := by
  have lim : ∀ {a : Int}, (Lit.int .u8 a).wf = true → 0 ≤ a ∧ a ≤ 255 := fun {a} h => by
    simp only [Lit.wf, Bool.and_eq_true, decide_eq_true_eq] at h
    exact h
  rcases h with ⟨_, _, _, rfl⟩ | ⟨x, _, _, _, _, _, hw⟩
  · simp
  · by_cases hj : j < zs.length
    · exact lim (hw (zs.getD j 0) (by simp [List.getD, hj]))
    · have : zs.getD j 0 = 0 := by simp [List.getD, List.getElem?_eq_none (Nat.le_of_not_lt hj)]
      rw [this]; exact ⟨by omega, by omega⟩
theorem row_len {w : World} {k : IntKind} {a : Option Addr} {len cap : Nat} {zs : List Int} (h : IsRow k w a len cap zs) : len ≤ 9223372036854775807 ∧ len ≤ zs.length ∧ len ≤ cap ∧ cap ≤ 9223372036854775807 := by
  rcases h with ⟨_, rfl, rfl, rfl⟩ | ⟨x, _, h1, h2, h3, _, _⟩
  · exact ⟨by omega, Nat.le_refl _, Nat.le_refl _, by omega⟩
  · have := maxLen_lim h2; omega
theorem row_reads {w : World} {k : IntKind} {A : Option Addr} {len cap : Nat} {zs : List Int} (h : IsRow k w A len cap zs) : Reads k w w.heap.size A len (fun j => zs.getD j 0) := fun hp => by
  rcases h with ⟨_, rfl, _, _⟩ | ⟨x, rfl, h1, h2, h3, hc, _⟩
  · omega
  · have h0 := hc 0 (by omega)
    obtain ⟨b, o, sp⟩ := x
    have hsp : sp = none := by simpa [Addr.add] using World.cell?_spot h0
    subst hsp
    refine ⟨b, o, rfl, ?_, fun j hj => ?_⟩
    · have := World.block_lt_of_cell? _ _ h0
      simpa [Addr.add] using this
    · have := hc j (by omega)
      rwa [Addr.add_lit] at this
/-- Its numbers, as naturals. -/
def numF (zs : List Int) (j : Nat) : Nat := (zs.getD j 0).toNat
theorem row_nat {w : World} {A : Option Addr} {len cap : Nat} {zs : List Int} (h : IsRow .u64 w A len cap zs) : Reads .u64 w w.heap.size A len (fun j => ((numF zs j : Nat) : Int)) ∧ ∀ j, numF zs j < 18446744073709551616 := by
  refine ⟨(row_reads h).same fun j _ => ?_, fun j => ?_⟩
  all_goals
    have := row_u64 h j
    unfold numF
    omega
theorem row_nat8 {w : World} {A : Option Addr} {len cap : Nat} {zs : List Int} (h : IsRow .u8 w A len cap zs) : Reads .u8 w w.heap.size A len (fun j => ((numF zs j : Nat) : Int)) ∧ ∀ j, numF zs j < 256 := by
  refine ⟨(row_reads h).same fun j _ => ?_, fun j => ?_⟩
  all_goals
    have := row_u8 h j
    unfold numF
    omega
end Go.Proofs.Ytdjkhcnejbinjaa
