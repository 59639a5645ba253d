/- Rows of integers in memory: a slice that reads as so many numbers. No condition. -/
import Derived.Test.YtjfgjlklbepnjaaAid
import Derived.OwnWalk
import Derived.Laws.AppendOwn
import Derived.Laws.OwnMore
import Derived.Deep.AppendLies
namespace Go.Proofs.Ytjfgjlklbepnjaa
set_option linter.unusedSimpArgs false
set_option linter.unusedVariables false
open Go.RowKit

theorem bel_drewN {B : Nat} {a w : World} (h : Below B a w) (n : Nat) : Below B a (w.drewN n) := h.trans ⟨rfl, rfl, rfl, Nat.le_refl _, fun _ _ => rfl⟩
theorem bel_grown {B : Nat} {a w w' : World} {row : Option Nat} (h : Below B a w) (hg : w.grownBy w' row) (hB : B ≤ w.heap.size) (hr : ∀ k, row = some k → B ≤ k) : Below B a w' := h.grown hg hB hr

theorem ne_b {a b : Int} (h : (a != b) = true) : ¬ a = b := by simpa using h
theorem eq_b {a b : Int} (h : (a != b) = false) : a = b := by simpa using h
theorem ne_e {a b : Int} (h : (a == b) = false) : ¬ a = b := by simpa using h
theorem eq_e {a b : Int} (h : (a == b) = true) : a = b := by simpa using h

/-- The number at a place (0 behind the end). -/
def atI (l : List Nat) (k : Nat) : Int := ((l.getD k 0 : Nat) : Int)
/-- All numbers are bytes. -/
def Small (l : List Nat) : Prop := ∀ x ∈ l, x < 256

theorem atI_nonneg (l : List Nat) (k : Nat) : 0 ≤ atI l k := Int.natCast_nonneg _
theorem atI_le {l : List Nat} (h : Small l) (k : Nat) : atI l k ≤ 255 := by
  unfold atI
  by_cases hk : k < l.length
  · have := h (l.getD k 0) (by simp [List.getD, hk])
    omega
  · simp [List.getD, hk]

/-- The slice value at A, n elements long, reads as the numbers f below block B. -/
def Reads (k : IntKind) (w : World) (B : Nat) (A : Option Addr) (n : Nat) (f : Nat → Int) : Prop :=
  0 < n → ∃ b o, A = some ⟨b, o, none⟩ ∧ b < B ∧ ∀ j, j < n → w.cell? ⟨b, o + j, none⟩ = some (.int k (f j))

section
variable {k : IntKind} {w w' W : World} {B C n : Nat} {A : Option Addr} {f : Nat → Int}
theorem Reads.nil (k : IntKind) (w : World) (B : Nat) (A : Option Addr) (f : Nat → Int) : Reads k w B A 0 f := fun h => absurd h (by simp)
theorem Reads.keep (h : Reads k w B A n f) (hb : Below B w w') : Reads k w' B A n f := fun hl => by
  obtain ⟨b, o, e, hB, hc⟩ := h hl
  exact ⟨b, o, e, hB, fun j hj => (hb.cell (p := ⟨b, o + j, none⟩) hB).trans (hc j hj)⟩
theorem Reads.more (h : Reads k w B A n f) (hB : B ≤ C) : Reads k w C A n f := fun hl => by
  obtain ⟨b, o, e, hb, hc⟩ := h hl
  exact ⟨b, o, e, Nat.lt_of_lt_of_le hb hB, hc⟩
theorem Reads.later (h : Reads k W B A n f) (hB : B ≤ C) (X : Later C W) : Reads k X.w B A n f := h.keep (X.is.mono hB)
theorem Reads.same {g : Nat → Int} (h : Reads k w B A n f) (e : ∀ j, j < n → f j = g j) : Reads k w B A n g := fun hl => by
  obtain ⟨b, o, hA, hB, hc⟩ := h hl
  exact ⟨b, o, hA, hB, fun j hj => by rw [hc j hj, e j hj]⟩

/-- What the law on append leaves reads as the list that was put together. -/
theorem Reads.of_own {base : Nat} {e : TypeId} {c : Nat} {xs : List Value} (h : w.ownsRow base e 1 (.slice A n c) n xs)
    (hx : ∀ j, j < n → xs[j]? = some (.int k (f j))) : Reads k w w.heap.size A n f := by
  intro hn
  obtain ⟨g, cap, hv, _, hlt⟩ := h.form hn
  have hA : A = some ⟨g, 0, none⟩ := by injection hv
  subst hA
  refine ⟨g, 0, rfl, hlt, fun j hj => ?_⟩
  rw [Nat.zero_add, h.cellAt j (by omega)]
  exact hx j hj
/-- The cells of a row of numbers. -/
def rowV (k : IntKind) (n : Nat) (f : Nat → Int) : List Value := (List.range n).map fun j => .int k (f j)
theorem rowV_get {j : Nat} (h : j < n) : (rowV k n f)[j]? = some (.int k (f j)) := by simp [rowV, h]
theorem rowV_len : (rowV k n f).length = n := by simp [rowV]
theorem rowV_one : ∀ u ∈ rowV k n f, u.oneCell' = true := by
  intro u hu
  simp only [rowV, List.mem_map] at hu
  obtain ⟨_, _, rfl⟩ := hu; rfl
theorem rowV_congr {g : Nat → Int} (h : ∀ j, j < n → f j = g j) : rowV k n f = rowV k n g := by
  unfold rowV
  exact List.map_congr_left fun j hj => by rw [h j (by simpa using hj)]
theorem rowV_succ : rowV k (n + 1) f = rowV k n f ++ [.int k (f n)] := by simp [rowV, List.range_succ]
theorem Reads.own {base : Nat} {e : TypeId} {c : Nat} (h : w.ownsRow base e 1 (.slice A n c) n (rowV k n f)) : Reads k w w.heap.size A n f := Reads.of_own h (fun j hj => rowV_get hj)

/-- What a call leaves that answers a new row and one thing more. -/
def RowPost (k : IntKind) (e : TypeId) (w : World) (n : Nat) (f : Nat → Int) (last : Value) (en : Ending) (w' : World) : Prop :=
  ∃ A c, en = .returned (.tuple #[.slice A n c, last]) ∧ w'.ownsRow w.heap.size e 1 (.slice A n c) n (rowV k n f) ∧ Below w.heap.size w w'
end
end Go.Proofs.Ytjfgjlklbepnjaa
