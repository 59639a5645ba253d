/- What must come of fixed calls: known walked. No condition. -/
import Derived.Test.YtjfgjlklbepnjaaTkI
namespace Go.Proofs.Ytjfgjlklbepnjaa
open Go.RowKit
set_option linter.unusedSimpArgs false
set_option linter.unusedVariables false
set_option maxRecDepth 4000

def allG : Gr := ⟨31, 16, 0, 0, 65535, 65535, false, 4294967295⟩
def kG : Gr := ⟨1, 16, 0, 0, 65535, 65535, false, 9⟩
def kL1 : List Tk := [⟨5, 0, allG⟩]
def kL2 : List Tk := [⟨5, 0, allG⟩, ⟨7, 5, kG⟩]
theorem kn1 : makeE (leftT [] 0) 5 allG = 0 ∧ makeT (leftT [] 0) 0 5 allG = kL1 := ⟨by decide +kernel, rfl⟩
theorem meet_k : meetG kG allG = kG := by
  refine gr_ext ?_ ?_ ?_ ?_ ?_ ?_ ?_ ?_ <;> decide +kernel
theorem fk2 : findT kL2 7 = some ⟨7, 5, kG⟩ ∧ findT kL2 5 = some ⟨5, 0, allG⟩ ∧ findT kL2 0 = none ∧ findT kL1 7 = none ∧ findT kL1 5 = some ⟨5, 0, allG⟩ ∧ findT kL1 0 = none := ⟨rfl, rfl, rfl, rfl, rfl, rfl⟩
theorem gk1 : grantsT kL1 ⟨5, 0, allG⟩ = allG := rfl
theorem gk2 : grantsT kL2 ⟨5, 0, allG⟩ = allG ∧ grantsT kL2 ⟨7, 5, kG⟩ = kG := ⟨rfl, by
  show climb kL2 2 kG 5 = kG
  rw [climb_some fk2.2.1, climb_none (show findT kL2 0 = none from rfl), meet_k]⟩
theorem lk1 : leftT kL1 0 = kL1 ∧ leftT kL1 10 = kL1 := by
  constructor <;> (refine left_of fun k hk => ?_; simp [kL1] at hk; subst hk; rw [gk1]; decide)
theorem lk2 : leftT kL2 9 = kL2 := by
  refine left_of fun k hk => ?_
  simp [kL2] at hk
  rcases hk with rfl | rfl
  · rw [gk2.1]; decide
  · rw [gk2.2]; decide
theorem lk3 : leftT kL2 10 = kL1 := by
  show (kL2.filter fun k => decide (10 ≤ (grantsT kL2 k).til)) = kL1
  show ([⟨5, 0, allG⟩, ⟨7, 5, kG⟩] : List Tk).filter (fun k => decide (10 ≤ (grantsT kL2 k).til)) = kL1
  rw [List.filter_cons, List.filter_cons, gk2.1, gk2.2]
  rfl
theorem kn2 : derE (leftT kL1 0) 5 7 kG = 0 ∧ derT (leftT kL1 0) 5 7 kG = kL2 := by
  rw [lk1.1]
  have h : makeE kL1 7 kG = 0 := by decide +kernel
  refine ⟨?_, ?_⟩
  · unfold derE; rw [fk2.2.2.2.2.1]; exact h
  · unfold derT makeT; rw [fk2.2.2.2.2.1, h]; rfl
theorem kn3 : liveG (leftT kL2 9) 7 = kG ∧ (findT (leftT kL2 9) 7).isSome = true := by
  rw [lk2]
  refine ⟨?_, rfl⟩
  show grantsT kL2 ⟨7, 5, kG⟩ = kG
  exact gk2.2
theorem kn4 : liveG (leftT kL2 10) 7 = zeroG ∧ (findT (leftT kL2 10) 7).isSome = false := by
  rw [lk3]
  exact ⟨rfl, rfl⟩
theorem kn5 : revE (leftT kL1 10) 5 = 0 ∧ revT (leftT kL1 10) 5 = [] := by
  rw [lk1.2]
  exact ⟨rfl, rfl⟩
theorem tall_any (w : World) : Calls Try.prog 40 #[] w fun e w' => e = .returned (.agg #[.int .i64 31, .int .i64 16, .int .i64 0, .int .i64 0, .int .i64 65535, .int .i64 65535, .bool false, .int .i64 4294967295]) ∧ Below w.heap.size w w' := by
  go_enter Try.func40, Try.ntmps40
  go_wp2
  refine bodyPost_ret (by simp only [results, Try.results40]; go_simp; all_goals (first | rfl | simp [sel])) rfl ⟨rfl, ?_⟩
  repeat' (first | (with_reducible exact Below.refl _ _) | (with_reducible assumption) | (with_reducible refine Later.step ?_ ?_ _) | (with_reducible refine Below.alloc ?_ ?_ _) | (with_reducible refine Below.drew ?_) | (with_reducible refine Below.setCell ?_ ?_ _) | go_size)
theorem k_mint (Y : World) (q c : Nat) (A : Option Addr) (h : GTab Y q A c []) : Calls Try.prog 13 #[.pointer (some ⟨q, 0, none⟩), .int .u64 5, .agg #[.int .i64 31, .int .i64 16, .int .i64 0, .int .i64 0, .int .i64 65535, .int .i64 65535, .bool false, .int .i64 4294967295], .int .i64 0] Y (MPost Y q A (.int .i64 0) kL1) := by
  have h9 := mint_any q c A [] 5 allG 0 Y h (by decide)
  rw [kn1.1, kn1.2] at h9
  exact h9
theorem k_der (Y : World) (q c : Nat) (A : Option Addr) (h : GTab Y q A c kL1) : Calls Try.prog 15 #[.pointer (some ⟨q, 0, none⟩), .int .u64 5, .int .u64 7, .agg #[.int .i64 1, .int .i64 16, .int .i64 0, .int .i64 0, .int .i64 65535, .int .i64 65535, .bool false, .int .i64 9], .int .i64 0] Y (MPost Y q A (.int .i64 0) kL2) := by
  have h9 := derive_any q c A kL1 5 7 kG 0 Y h (by decide) (by decide)
  rw [kn2.1, kn2.2] at h9
  exact h9
theorem k_live9 (Y : World) (q c : Nat) (A : Option Addr) (h : GTab Y q A c kL2) : Calls Try.prog 18 #[.pointer (some ⟨q, 0, none⟩), .int .u64 7, .int .i64 9] Y (MPost Y q A (.tuple #[.agg #[.int .i64 1, .int .i64 16, .int .i64 0, .int .i64 0, .int .i64 65535, .int .i64 65535, .bool false, .int .i64 9], .bool true]) kL2) := by
  have h9 := live_any q c A kL2 7 9 Y h (by decide)
  rw [kn3.1, kn3.2, lk2] at h9
  exact h9
theorem k_live10 (Y : World) (q c : Nat) (A : Option Addr) (h : GTab Y q A c kL2) : Calls Try.prog 18 #[.pointer (some ⟨q, 0, none⟩), .int .u64 7, .int .i64 10] Y (MPost Y q A (.tuple #[.agg #[.int .i64 0, .int .i64 0, .int .i64 0, .int .i64 0, .int .i64 0, .int .i64 0, .bool false, .int .i64 0], .bool false]) kL1) := by
  have h9 := live_any q c A kL2 7 10 Y h (by decide)
  rw [kn4.1, kn4.2, lk3] at h9
  exact h9
theorem k_len1 (Y : World) (q c : Nat) (A : Option Addr) (h : GTab Y q A c kL1) : Calls Try.prog 22 #[.pointer (some ⟨q, 0, none⟩), .int .i64 10] Y (MPost Y q A (.int .i64 1) kL1) := by
  have h9 := tlen_any q c A kL1 10 Y h
  rw [lk1.2] at h9
  exact h9
theorem k_rev (Y : World) (q c : Nat) (A : Option Addr) (h : GTab Y q A c kL1) : Calls Try.prog 16 #[.pointer (some ⟨q, 0, none⟩), .int .u64 5, .int .i64 10] Y (MPost Y q A (.int .i64 0) []) := by
  have h9 := revoke_any q c A kL1 5 10 Y h (by decide)
  rw [kn5.1, kn5.2] at h9
  exact h9
theorem k_len0 (Y : World) (q c : Nat) (A : Option Addr) (h : GTab Y q A c []) : Calls Try.prog 22 #[.pointer (some ⟨q, 0, none⟩), .int .i64 10] Y (MPost Y q A (.int .i64 0) []) := tlen_any q c A [] 10 Y h
set_option maxHeartbeats 8000000 in
theorem tknown_any (w : World) : Calls Try.prog 23 #[] w fun e w' => e = .returned (.bool true) ∧ Below w.heap.size w w' := by
  have Q1 := Lib.hid k_mint
  have Q2 := Lib.hid k_der
  have Q3 := Lib.hid k_live9
  have Q4 := Lib.hid k_live10
  have Q5 := Lib.hid k_len1
  have Q6 := Lib.hid k_rev
  have Q7 := Lib.hid k_len0
  go_enter Try.func23, Try.ntmps23
  go_wp2_with fail
  refine (tnew_any _).mono ?_
  rintro e w1 ⟨rfl, hT, hb⟩
  have HT1 := Lib.hid hT
  have hql := hT.tab.lt
  obtain ⟨X1, rfl⟩ : ∃ Z : Later w.heap.size w, w1 = Z.w := ⟨⟨w1, hb⟩, rfl⟩
  clear hT hb
  go_wp2_with fail
  refine (tall_any _).mono ?_
  rintro e w' ⟨rfl, hb⟩; obtain ⟨X2, rfl, hl2, hm2⟩ := later _ hb (Nat.le_refl _); clear hb; (try simp only [World.size_alloc, World.size_setCell, World.size_drew] at hm2 hl2)
  go_wp2_with fail
  have hfar : Far w.heap.size none X2.w.heap.size := ⟨by omega, fun a e => by cases e⟩
  have HG := Lib.hid (show CellsAt (X2.w.alloc (Obj.cells #[.int .i64 1, .int .i64 16, .int .i64 0, .int .i64 0, .int .i64 65535, .int .i64 65535, .bool false, .int .i64 9] 30)) X2.w.heap.size 8 (grC kG) from grc_new (g := kG) rfl)
  have HT2 := Lib.hid (show GTab (X2.w.alloc (Obj.cells #[.int .i64 1, .int .i64 16, .int .i64 0, .int .i64 0, .int .i64 65535, .int .i64 65535, .bool false, .int .i64 9] 30)) w.heap.size none 0 [] from HT1.out.keep (Below.alloc X2.is hl2 _))
  refine (tall_any _).mono ?_
  rintro e w' ⟨rfl, hb⟩; obtain ⟨X3, rfl, hl3, hm3⟩ := later _ hb (Nat.le_refl _); clear hb; (try simp only [World.size_alloc, World.size_setCell, World.size_drew] at hm3 hl3)
  go_wp2_with fail
  have HT3 := Lib.hid (HT2.out.keep (show Below _ _ X3.w from X3.is))
  have hg3 := HG.out.keep (show Below _ _ X3.w from X3.is)
  have hb3 : Below w.heap.size w X3.w := by repeat' (first | (with_reducible exact Below.refl _ _) | (with_reducible assumption) | (with_reducible refine Later.step ?_ ?_ _) | (with_reducible refine Below.alloc ?_ ?_ _) | (with_reducible refine Below.drew ?_) | (with_reducible refine bel_drewN ?_ _) | (with_reducible refine bel_grown ?_ (by assumption) ?_ ?_) | (with_reducible refine Below.setCell ?_ ?_ _) | go_size)
  refine (Q1.out _ _ _ _ HT3.out).mono ?_
  rintro e w4 ⟨rfl, A4, c4, hT4, hto4⟩
  have hg4 := hg3.to hto4 hfar
  have hf4 := hfar.to hto4 hg3.1
  have hb4 := hb3.trans (hto4.elder HT3.out.tab)
  obtain ⟨g0, g1, g2, g3, g4, g5, g6, g7⟩ := grc_get hg4
  simp only [kG] at g0 g1 g2 g3 g4 g5 g6 g7
  have HT4 := Lib.hid hT4
  obtain ⟨X4, rfl⟩ : ∃ Z : Later w.heap.size w, w4 = Z.w := ⟨⟨w4, hb4⟩, rfl⟩
  clear hT4 hto4 hg4 hf4 hb4 hg3 hb3 hfar
  go_wp2_with fail
  refine (Q2.out _ _ _ _ HT4.out).mono ?_
  rintro e w5 ⟨rfl, A5, c5, hT5, hto5⟩
  have hb5 : Below w.heap.size w w5 := X4.is.trans (hto5.elder HT4.out.tab)
  have HT5 := Lib.hid hT5
  obtain ⟨X5, rfl⟩ : ∃ Z : Later w.heap.size w, w5 = Z.w := ⟨⟨w5, hb5⟩, rfl⟩
  clear hT5 hto5 hb5
  go_wp2_with fail
  refine (Q3.out _ _ _ _ HT5.out).mono ?_
  rintro e w6 ⟨rfl, A6, c6, hT6, hto6⟩
  have hb6 : Below w.heap.size w w6 := X5.is.trans (hto6.elder HT5.out.tab)
  have HT6 := Lib.hid hT6
  obtain ⟨X6, rfl⟩ : ∃ Z : Later w.heap.size w, w6 = Z.w := ⟨⟨w6, hb6⟩, rfl⟩
  clear hT6 hto6 hb6
  go_wp2_with fail
  have HT6' := Lib.hid (HT6.out.keep (w' := X6.w.alloc (Obj.cells #[.int .i64 1, .int .i64 16, .int .i64 0, .int .i64 0, .int .i64 65535, .int .i64 65535, .bool false, .int .i64 9] 30)) (by repeat' (first | (with_reducible exact Below.refl _ _) | (with_reducible assumption) | (with_reducible refine Later.step ?_ ?_ _) | (with_reducible refine Below.alloc ?_ ?_ _) | (with_reducible refine Below.drew ?_) | (with_reducible refine bel_drewN ?_ _) | (with_reducible refine bel_grown ?_ (by assumption) ?_ ?_) | (with_reducible refine Below.setCell ?_ ?_ _) | go_size)))
  have hg6 : CellsAt (X6.w.alloc (Obj.cells #[.int .i64 1, .int .i64 16, .int .i64 0, .int .i64 0, .int .i64 65535, .int .i64 65535, .bool false, .int .i64 9] 30)) X6.w.heap.size 8 (grC kG) := grc_new (g := kG) rfl
  have hfar6 : Far w.heap.size A6 X6.w.heap.size := HT6.out.tab.far (Nat.le_refl _)
  refine (Q4.out _ _ _ _ HT6'.out).mono ?_
  rintro e w7 ⟨rfl, A7, c7, hT7, hto7⟩
  have hg7 := hg6.to hto7 hfar6
  obtain ⟨d0, d1, d2, d3, d4, d5, d6, d7⟩ := grc_get hg7
  simp only [kG] at d0 d1 d2 d3 d4 d5 d6 d7
  have hl7 := hg7.1
  have hb7 : Below w.heap.size w w7 := (Below.alloc X6.is X6.is.size _).trans (hto7.elder HT6'.out.tab)
  have HT7 := Lib.hid hT7
  obtain ⟨X7, rfl⟩ : ∃ Z : Later w.heap.size w, w7 = Z.w := ⟨⟨w7, hb7⟩, rfl⟩
  clear hT7 hto7 hb7 hg6 hg7 hfar6
  go_wp2_with fail
  have HT7' := Lib.hid (HT7.out.keep (w' := X7.w.alloc (Obj.cells #[.int .i64 0, .int .i64 0, .int .i64 0, .int .i64 0, .int .i64 0, .int .i64 0, .bool false, .int .i64 0] 30)) (by repeat' (first | (with_reducible exact Below.refl _ _) | (with_reducible assumption) | (with_reducible refine Later.step ?_ ?_ _) | (with_reducible refine Below.alloc ?_ ?_ _) | (with_reducible refine Below.drew ?_) | (with_reducible refine bel_drewN ?_ _) | (with_reducible refine bel_grown ?_ (by assumption) ?_ ?_) | (with_reducible refine Below.setCell ?_ ?_ _) | go_size)))
  refine (Q5.out _ _ _ _ HT7'.out).mono ?_
  rintro e w8 ⟨rfl, A8, c8, hT8, hto8⟩
  have hb8 : Below w.heap.size w w8 := (Below.alloc X7.is X7.is.size _).trans (hto8.elder HT7'.out.tab)
  have HT8 := Lib.hid hT8
  obtain ⟨X8, rfl⟩ : ∃ Z : Later w.heap.size w, w8 = Z.w := ⟨⟨w8, hb8⟩, rfl⟩
  clear hT8 hto8 hb8
  go_wp2_with fail
  refine (Q6.out _ _ _ _ HT8.out).mono ?_
  rintro e w9 ⟨rfl, A9, c9, hT9, hto9⟩
  have hb9 : Below w.heap.size w w9 := X8.is.trans (hto9.elder HT8.out.tab)
  have HT9 := Lib.hid hT9
  obtain ⟨X9, rfl⟩ : ∃ Z : Later w.heap.size w, w9 = Z.w := ⟨⟨w9, hb9⟩, rfl⟩
  clear hT9 hto9 hb9
  go_wp2_with fail
  refine (Q7.out _ _ _ _ HT9.out).mono ?_
  rintro e w10 ⟨rfl, A10, c10, hT10, hto10⟩
  have hb10 : Below w.heap.size w w10 := X9.is.trans (hto10.elder HT9.out.tab)
  clear hT10 hto10
  go_wp2
  go_ret
  exact ⟨rfl, hb10⟩
end Go.Proofs.Ytjfgjlklbepnjaa
