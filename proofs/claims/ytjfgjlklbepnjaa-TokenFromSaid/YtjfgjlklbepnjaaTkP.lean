/- Grants and tickets as values: plain facts. No condition. -/
import Derived.Test.YtjfgjlklbepnjaaGeomS
namespace Go.Proofs.Ytjfgjlklbepnjaa
set_option linter.unusedSimpArgs false
set_option linter.unusedVariables false
set_option maxRecDepth 2000

/-- A grant. -/
structure Gr where
  ops : Int
  zoom : Int
  a : Int
  b : Int
  c : Int
  d : Int
  void : Bool
  til : Int
/-- A ticket. -/
structure Tk where
  s : Nat
  p : Nat
  g : Gr
def g0 : Gr := ⟨0, 0, 0, 0, 0, 0, false, 0⟩
def t0 : Tk := ⟨0, 0, g0⟩
theorem gr_ext {g h : Gr} (h1 : g.ops = h.ops) (h2 : g.zoom = h.zoom) (h3 : g.a = h.a) (h4 : g.b = h.b) (h5 : g.c = h.c) (h6 : g.d = h.d) (h7 : g.void = h.void) (h8 : g.til = h.til) : g = h := by
  cases g
  cases h
  simp_all
theorem tk_ext {g h : Tk} (h1 : g.s = h.s) (h2 : g.p = h.p) (h3 : g.g = h.g) : g = h := by
  cases g
  cases h
  simp_all
/-- A grant that may be. -/
def rightG (g : Gr) : Bool := decide (0 ≤ g.ops ∧ g.ops ≤ 31 ∧ 0 ≤ g.zoom ∧ g.zoom ≤ 16 ∧ 0 ≤ g.til ∧ g.til ≤ 4294967295 ∧ ((g.void = true ∧ g.a = 0 ∧ g.b = 0 ∧ g.c = 0 ∧ g.d = 0) ∨ (g.void = false ∧ rightB g.a g.b g.c g.d = true)))
def landI (a b : Int) : Int := ((a.toNat &&& b.toNat : Nat) : Int)
/-- Two boxes that meet. -/
def mB (g h : Gr) : Bool := !g.void && !h.void && meetsB g.a g.b g.c g.d h.a h.b h.c h.d
def meetG (g h : Gr) : Gr :=
  ⟨landI g.ops h.ops, min g.zoom h.zoom, sel (mB g h) (max g.a h.a), sel (mB g h) (max g.b h.b), sel (mB g h) (min g.c h.c), sel (mB g h) (min g.d h.d), !mB g h, min g.til h.til⟩
theorem land_comm (a b : Int) : landI a b = landI b a := by
  unfold landI
  rw [Nat.and_comm]
theorem land_assoc (a b c : Int) : landI (landI a b) c = landI a (landI b c) := by
  unfold landI
  simp only [Int.toNat_natCast]
  rw [Nat.and_assoc]
theorem land_self {a : Int} (h : 0 ≤ a) : landI a a = a := by
  unfold landI
  rw [Nat.and_self]
  omega
theorem land_bd {a b n : Int} (h0 : 0 ≤ a) (h1 : a ≤ n) : 0 ≤ landI a b ∧ landI a b ≤ n := by
  unfold landI
  have := @Nat.and_le_left a.toNat b.toNat
  omega
theorem mB_iff {g h : Gr} : mB g h = true ↔ g.void = false ∧ h.void = false ∧ rightB g.a g.b g.c g.d = true ∧ rightB h.a h.b h.c h.d = true ∧ g.a ≤ h.c ∧ h.a ≤ g.c ∧ g.b ≤ h.d ∧ h.b ≤ g.d := by
  unfold mB meetsB
  simp only [Bool.and_eq_true, Bool.not_eq_true', decide_eq_true_eq]
  constructor
  · rintro ⟨⟨a, b⟩, c, d, e, f, g, h⟩; exact ⟨a, b, c, d, e, f, g, h⟩
  · rintro ⟨a, b, c, d, e, f, g, h⟩; exact ⟨⟨a, b⟩, c, d, e, f, g, h⟩
theorem mB_comm (g h : Gr) : mB g h = mB h g := by
  rw [Bool.eq_iff_iff, mB_iff, mB_iff]
  constructor
  · rintro ⟨a, b, c, d, e, f, g, h⟩; exact ⟨b, a, d, c, f, e, h, g⟩
  · rintro ⟨a, b, c, d, e, f, g, h⟩; exact ⟨b, a, d, c, f, e, h, g⟩
theorem meet_comm (g h : Gr) : meetG g h = meetG h g := by
  unfold meetG
  rw [mB_comm g h, land_comm, Int.min_comm g.zoom, Int.max_comm g.a, Int.max_comm g.b, Int.min_comm g.c, Int.min_comm g.d, Int.min_comm g.til]
/-- Three boxes. -/
theorem mB_three {g h k : Gr} : mB (meetG g h) k = true ↔ mB g h = true ∧ k.void = false ∧ rightB k.a k.b k.c k.d = true ∧ max g.a h.a ≤ k.c ∧ k.a ≤ min g.c h.c ∧ max g.b h.b ≤ k.d ∧ k.b ≤ min g.d h.d := by
  cases hm : mB g h with
  | false =>
    rw [mB_iff]
    simp [meetG, hm]
  | true =>
    obtain ⟨_, _, r1, r2, b1, b2, b3, b4⟩ := mB_iff.1 hm
    rw [mB_iff]
    simp only [meetG, hm, sel, if_true, Bool.not_true, true_and]
    rw [right_iff] at *
    rw [right_iff]
    constructor
    · rintro ⟨a, b, c, d⟩; exact ⟨a, c, d⟩
    · rintro ⟨a, c, d⟩; exact ⟨a, by omega, c, d⟩
theorem mB_assoc (g h k : Gr) : mB (meetG g h) k = mB g (meetG h k) := by
  rw [mB_comm g, Bool.eq_iff_iff, mB_three, mB_three, mB_iff, mB_iff]
  constructor
  · rintro ⟨⟨a1, a2, a3, a4, a5, a6, a7, a8⟩, b1, b2, b3, b4, b5, b6⟩
    exact ⟨⟨a2, b1, a4, b2, by omega, by omega, by omega, by omega⟩, a1, a3, by omega, by omega, by omega, by omega⟩
  · rintro ⟨⟨a1, a2, a3, a4, a5, a6, a7, a8⟩, b1, b2, b3, b4, b5, b6⟩
    exact ⟨⟨b1, a1, b2, a3, by omega, by omega, by omega, by omega⟩, a2, a4, by omega, by omega, by omega, by omega⟩
theorem meet_assoc (g h k : Gr) : meetG (meetG g h) k = meetG g (meetG h k) := by
  have e := mB_assoc g h k
  refine gr_ext (land_assoc _ _ _) (Int.min_assoc _ _ _) ?_ ?_ ?_ ?_ (by show (!mB (meetG g h) k) = (!mB g (meetG h k)); rw [e]) (Int.min_assoc _ _ _)
  all_goals
    simp only [show ∀ x y : Gr, (meetG x y).a = sel (mB x y) (max x.a y.a) from fun _ _ => rfl, show ∀ x y : Gr, (meetG x y).b = sel (mB x y) (max x.b y.b) from fun _ _ => rfl, show ∀ x y : Gr, (meetG x y).c = sel (mB x y) (min x.c y.c) from fun _ _ => rfl, show ∀ x y : Gr, (meetG x y).d = sel (mB x y) (min x.d y.d) from fun _ _ => rfl]
    rw [e]
    cases h3 : mB g (meetG h k) with
    | false => rfl
    | true =>
      have h1 := (mB_three.1 (e.trans h3)).1
      rw [mB_comm] at h3
      have h2 := (mB_three.1 h3).1
      rw [h1, h2]
      simp only [sel, if_true]
      omega
theorem rightG_iff {g : Gr} : rightG g = true ↔ 0 ≤ g.ops ∧ g.ops ≤ 31 ∧ 0 ≤ g.zoom ∧ g.zoom ≤ 16 ∧ 0 ≤ g.til ∧ g.til ≤ 4294967295 ∧ ((g.void = true ∧ g.a = 0 ∧ g.b = 0 ∧ g.c = 0 ∧ g.d = 0) ∨ (g.void = false ∧ rightB g.a g.b g.c g.d = true)) := by simp [rightG]
theorem right_meet {g h : Gr} (hg : rightG g = true) (hh : rightG h = true) : rightG (meetG g h) = true := by
  rw [rightG_iff] at *
  have := land_bd (b := h.ops) hg.1 hg.2.1
  refine ⟨this.1, this.2, ?_, ?_, ?_, ?_, ?_⟩
  · simp only [meetG]; omega
  · simp only [meetG]; omega
  · simp only [meetG]; omega
  · simp only [meetG]; omega
  · cases hm : mB g h with
    | false => left; simp [meetG, hm, sel]
    | true =>
      right
      obtain ⟨_, _, r1, r2, b1, b2, b3, b4⟩ := mB_iff.1 hm
      simp only [meetG, hm, sel, if_true, Bool.not_true, true_and]
      rw [right_iff] at *
      omega
theorem meet_self {g : Gr} (hg : rightG g = true) : meetG g g = g := by
  rw [rightG_iff] at hg
  obtain ⟨h1, h2, h3, h4, h5, h6, h7⟩ := hg
  have hm : mB g g = !g.void := by
    rcases h7 with ⟨hv, _⟩ | ⟨hv, hr⟩
    · unfold mB; rw [hv]; rfl
    · rw [hv, Bool.not_false, mB_iff]
      have := right_iff.1 hr
      exact ⟨hv, hv, hr, hr, by omega, by omega, by omega, by omega⟩
  refine gr_ext (land_self h1) (by simp [meetG]) ?_ ?_ ?_ ?_ (by simp [meetG, hm]) (by simp [meetG])
  all_goals
    simp only [meetG, hm]
    rcases h7 with ⟨hv, e1, e2, e3, e4⟩ | ⟨hv, _⟩
    · simp [hv, sel, e1, e2, e3, e4]
    · simp [hv, sel]
/-- Equal grants, told field by field. -/
def eqG (g h : Gr) : Bool := decide (g.ops = h.ops ∧ g.zoom = h.zoom ∧ g.a = h.a ∧ g.b = h.b ∧ g.c = h.c ∧ g.d = h.d ∧ g.void = h.void ∧ g.til = h.til)
theorem eqG_iff {g h : Gr} : eqG g h = true ↔ g = h := by
  unfold eqG
  rw [decide_eq_true_eq]
  constructor
  · rintro ⟨a, b, c, d, e, f, g, h⟩; exact gr_ext a b c d e f g h
  · rintro rfl; simp
def eqT (g h : Tk) : Bool := decide (g.s = h.s ∧ g.p = h.p) && eqG g.g h.g
theorem eqT_iff {g h : Tk} : eqT g h = true ↔ g = h := by
  unfold eqT
  rw [Bool.and_eq_true, decide_eq_true_eq, eqG_iff]
  constructor
  · rintro ⟨⟨a, b⟩, c⟩; exact tk_ext a b c
  · rintro rfl; simp
/-- One grant together with another is just itself. -/
def narrowB (g h : Gr) : Bool := rightG g && rightG h && eqG (meetG g h) g
theorem narrow_left {g h : Gr} (hg : rightG g = true) (hh : rightG h = true) : narrowB (meetG g h) g = true := by
  unfold narrowB
  rw [right_meet hg hh, hg, Bool.and_self, Bool.true_and, eqG_iff, meet_comm, ← meet_assoc, meet_self hg]
theorem narrow_right {g h : Gr} (hg : rightG g = true) (hh : rightG h = true) : narrowB (meetG g h) h = true := by
  rw [meet_comm]
  exact narrow_left hh hg

/-- The ticket with a secret. -/
def findT (L : List Tk) (s : Nat) : Option Tk := if s = 0 then none else L.find? fun k => decide (k.s = s)
theorem find_zero (L : List Tk) : findT L 0 = none := if_pos rfl
theorem find_mem {L : List Tk} {s : Nat} {k : Tk} (h : findT L s = some k) : k ∈ L ∧ k.s = s ∧ s ≠ 0 := by
  unfold findT at h
  split at h
  · cases h
  · rename_i h0
    have h1 := List.find?_some h
    exact ⟨List.mem_of_find?_eq_some h, by simpa using h1, h0⟩
theorem find_none {L : List Tk} {s : Nat} (h : findT L s = none) {k : Tk} (hk : k ∈ L) (h0 : s ≠ 0) : k.s ≠ s := by
  unfold findT at h
  rw [if_neg h0, List.find?_eq_none] at h
  simpa using h k hk
theorem find_snoc (L : List Tk) (x : Tk) (s : Nat) : findT (L ++ [x]) s = (findT L s).or (if x.s = s ∧ s ≠ 0 then some x else none) := by
  unfold findT
  by_cases h0 : s = 0
  · simp [h0]
  · rw [if_neg h0, if_neg h0, List.find?_append]
    by_cases hx : x.s = s <;> simp [hx, h0]
theorem find_more {L : List Tk} {x k : Tk} {s : Nat} (h : findT L s = some k) : findT (L ++ [x]) s = some k := by rw [find_snoc, h]; rfl

/-- What is granted along a line of parents. -/
def climb (L : List Tk) : Nat → Gr → Nat → Gr
  | 0, g, _ => g
  | n + 1, g, p => match findT L p with
    | none => g
    | some k => climb L n (meetG g k.g) k.p
def grantsT (L : List Tk) (k : Tk) : Gr := climb L L.length k.g k.p
theorem climb_none {L : List Tk} {p : Nat} (h : findT L p = none) (n : Nat) (g : Gr) : climb L n g p = g := by
  cases n with
  | zero => rfl
  | succ n => unfold climb; rw [h]
theorem climb_some {L : List Tk} {p : Nat} {k : Tk} (h : findT L p = some k) (n : Nat) (g : Gr) : climb L (n + 1) g p = climb L n (meetG g k.g) k.p := by
  rw [climb, h]
theorem climb_meet (L : List Tk) : ∀ (n : Nat) (g h : Gr) (p : Nat), climb L n (meetG g h) p = meetG g (climb L n h p)
  | 0, _, _, _ => rfl
  | n + 1, g, h, p => by
    cases hf : findT L p with
    | none => rw [climb_none hf, climb_none hf]
    | some k => rw [climb_some hf, climb_some hf, meet_assoc, climb_meet L n]

/-- Tickets that a table may have: each parent ahead. -/
inductive GoodT : List Tk → Prop
  | nil : GoodT []
  | snoc {L : List Tk} {k : Tk} : GoodT L → k.s ≠ 0 → findT L k.s = none → (k.p = 0 ∨ ∃ q, findT L k.p = some q) → rightG k.g = true → GoodT (L ++ [k])
/-- A parent that is none, or is there. -/
def Shut (L : List Tk) (p : Nat) : Prop := p = 0 ∨ ∃ q, findT L p = some q
theorem Shut.more {L : List Tk} {p : Nat} (h : Shut L p) (x : Tk) : Shut (L ++ [x]) p := by
  rcases h with h | ⟨q, h⟩
  · exact .inl h
  · exact .inr ⟨q, find_more h⟩
theorem Shut.find {L : List Tk} {p : Nat} (h : Shut L p) (x : Tk) : findT (L ++ [x]) p = findT L p := by
  rcases h with rfl | ⟨q, h⟩
  · rw [find_zero, find_zero]
  · rw [h, find_more h]
theorem GoodT.mem {L : List Tk} (h : GoodT L) : ∀ k ∈ L, k.s ≠ 0 ∧ Shut L k.p ∧ rightG k.g = true := by
  induction h with
  | nil => intro k hk; cases hk
  | @snoc L x hL h1 h2 h3 h4 ih =>
    intro k hk
    rcases List.mem_append.1 hk with hk | hk
    · obtain ⟨a, b, c⟩ := ih k hk
      exact ⟨a, b.more x, c⟩
    · obtain rfl : k = x := by simpa using hk
      exact ⟨h1, Shut.more h3 k, h4⟩
theorem GoodT.shut {L : List Tk} (h : GoodT L) {s : Nat} {k : Tk} (hk : findT L s = some k) : Shut L k.p := (h.mem k (find_mem hk).1).2.1
/-- A ticket is the one that its secret finds. -/
theorem GoodT.find {L : List Tk} (h : GoodT L) : ∀ k ∈ L, findT L k.s = some k := by
  induction h with
  | nil => intro k hk; cases hk
  | @snoc L x hL h1 h2 h3 h4 ih =>
    intro k hk
    rcases List.mem_append.1 hk with hk | hk
    · exact find_more (ih k hk)
    · obtain rfl : k = x := by simpa using hk
      rw [find_snoc, h2]
      simp [h1]
theorem climb_snoc {L : List Tk} (h : GoodT L) (x : Tk) : ∀ (n : Nat) (g : Gr) (p : Nat), Shut L p → climb (L ++ [x]) n g p = climb L n g p
  | 0, _, _, _ => rfl
  | n + 1, g, p, hp => by
    cases hf : findT L p with
    | none => rw [climb_none hf, climb_none ((hp.find x).trans hf)]
    | some k => rw [climb_some hf, climb_some ((hp.find x).trans hf), climb_snoc h x n _ _ (h.shut hf)]
/-- More steps than tickets are not needed. -/
theorem climb_stay {L : List Tk} (h : GoodT L) : ∀ (n : Nat) (g : Gr) (p : Nat), L.length ≤ n → climb L n g p = climb L L.length g p := by
  induction h with
  | nil => intro n g p _; rw [climb_none (by unfold findT; simp), climb_none (by unfold findT; simp)]
  | @snoc L x hL h1 h2 h3 h4 ih =>
    have hlen : (L ++ [x]).length = L.length + 1 := by simp
    have key : ∀ (n : Nat) (g : Gr) (p : Nat), L.length + 1 ≤ n → climb (L ++ [x]) n g p = match findT (L ++ [x]) p with
      | none => g
      | some q => climb L L.length (meetG g q.g) q.p := by
      intro n g p hn
      obtain ⟨m, rfl⟩ : ∃ m, n = m + 1 := ⟨n - 1, by omega⟩
      cases hf : findT (L ++ [x]) p with
      | none => rw [climb_none hf]
      | some q =>
        rw [climb_some hf]
        have hq : Shut L q.p := by
          rw [find_snoc] at hf
          cases hg : findT L p with
          | some r =>
            rw [hg] at hf
            simp at hf
            subst hf
            exact hL.shut hg
          | none =>
            rw [hg] at hf
            simp at hf
            rw [← hf.2]
            exact h3
        rw [climb_snoc hL x m _ _ hq]
        exact ih m _ _ (by omega)
    intro n g p hn
    rw [hlen] at hn ⊢
    rw [key n g p hn, key _ g p (Nat.le_refl _)]
theorem grants_eq {L : List Tk} (h : GoodT L) (k : Tk) : grantsT L k = match findT L k.p with
    | none => k.g
    | some q => meetG k.g (grantsT L q) := by
  unfold grantsT
  rw [← climb_stay h (L.length + 1) k.g k.p (by omega)]
  cases hf : findT L k.p with
  | none => rw [climb_none hf]
  | some q => rw [climb_some hf, climb_meet]
theorem grants_own {L : List Tk} (h : GoodT L) {k q : Tk} (hq : findT L k.p = some q) : grantsT L k = meetG k.g (grantsT L q) := by
  rw [grants_eq h, hq]
theorem climb_right {L : List Tk} (h : GoodT L) : ∀ (n : Nat) (g : Gr) (p : Nat), rightG g = true → rightG (climb L n g p) = true
  | 0, _, _, hg => hg
  | n + 1, g, p, hg => by
    cases hf : findT L p with
    | none => rw [climb_none hf]; exact hg
    | some k => rw [climb_some hf]; exact climb_right h n _ _ (right_meet hg (h.mem k (find_mem hf).1).2.2)
theorem grants_right {L : List Tk} (h : GoodT L) {k : Tk} (hk : k ∈ L) : rightG (grantsT L k) = true := climb_right h _ _ _ (h.mem k hk).2.2
theorem climb_til (L : List Tk) : ∀ (n : Nat) (g : Gr) (p : Nat), (climb L n g p).til ≤ g.til
  | 0, _, _ => Int.le_refl _
  | n + 1, g, p => by
    cases hf : findT L p with
    | none => rw [climb_none hf]; exact Int.le_refl _
    | some k =>
      rw [climb_some hf]
      have := climb_til L n (meetG g k.g) k.p
      simp only [meetG] at this
      exact Int.le_trans this (Int.min_le_left _ _)
theorem grants_til (L : List Tk) (k : Tk) : (grantsT L k).til ≤ k.g.til := climb_til L _ _ _
theorem grants_up {L : List Tk} (h : GoodT L) {k q : Tk} (hq : findT L k.p = some q) : (grantsT L k).til ≤ (grantsT L q).til := by
  rw [grants_own h hq]
  exact Int.min_le_right _ _
theorem grants_narrow {L : List Tk} (h : GoodT L) {k : Tk} (hk : k ∈ L) : narrowB (grantsT L k) k.g = true := by
  have hr := (h.mem k hk).2.2
  rw [grants_eq h]
  cases hf : findT L k.p with
  | none => unfold narrowB; simp only; rw [hr, Bool.and_self, Bool.true_and, eqG_iff, meet_self hr]
  | some q => exact narrow_left hr (grants_right h (find_mem hf).1)
theorem grants_narrow_up {L : List Tk} (h : GoodT L) {k q : Tk} (hk : k ∈ L) (hq : findT L k.p = some q) : narrowB (grantsT L k) (grantsT L q) = true := by
  rw [grants_own h hq]
  exact narrow_right (h.mem k hk).2.2 (grants_right h (find_mem hq).1)

/-- Those that stay with their parents. -/
theorem find_filter {L : List Tk} (h : GoodT L) (P : Tk → Bool) (s : Nat) : findT (L.filter P) s = (findT L s).filter P := by
  induction h with
  | nil => unfold findT; simp
  | @snoc L x hL h1 h2 h3 h4 ih =>
    rw [List.filter_append, find_snoc]
    by_cases hx : P x = true
    · rw [show [x].filter P = [x] by simp [hx], find_snoc, ih]
      cases hf : findT L s with
      | none =>
        by_cases hs : x.s = s ∧ s ≠ 0
        · rw [if_pos hs]; simp [Option.filter, hx]
        · rw [if_neg hs]; simp
      | some q =>
        have hne : ¬ (x.s = s ∧ s ≠ 0) := by
          rintro ⟨rfl, _⟩
          rw [h2] at hf
          cases hf
        rw [if_neg hne]
        simp
    · rw [show [x].filter P = [] by simp [hx], List.append_nil, ih]
      cases hf : findT L s with
      | none =>
        by_cases hs : x.s = s ∧ s ≠ 0
        · rw [if_pos hs]; simp [Option.filter, hx]
        · rw [if_neg hs]; simp
      | some q => simp
def Kept (L : List Tk) (P : Tk → Bool) : Prop := ∀ k ∈ L, P k = true → ∀ q, findT L k.p = some q → P q = true
theorem good_filter {L : List Tk} (h : GoodT L) {P : Tk → Bool} : Kept L P → GoodT (L.filter P) := by
  induction h with
  | nil => intro _; exact .nil
  | @snoc L x hL h1 h2 h3 h4 ih =>
    intro hP
    have hP' : Kept L P := fun k hk hp q hq => hP k (by simp [hk]) hp q (find_more hq)
    rw [List.filter_append]
    by_cases hx : P x = true
    · rw [show [x].filter P = [x] by simp [hx]]
      refine .snoc (ih hP') h1 (by rw [find_filter hL, h2]; rfl) ?_ h4
      rcases h3 with h3 | ⟨q, hq⟩
      · exact .inl h3
      · exact .inr ⟨q, by rw [find_filter hL, hq]; simp [hP x (by simp) hx q (find_more hq)]⟩
    · rw [show [x].filter P = [] by simp [hx], List.append_nil]
      exact ih hP'
theorem climb_filter {L : List Tk} (h : GoodT L) {P : Tk → Bool} (hP : Kept L P) : ∀ (n : Nat) (g : Gr) (p : Nat), (p = 0 ∨ ∃ q, findT L p = some q ∧ P q = true) → climb (L.filter P) n g p = climb L n g p
  | 0, _, _, _ => rfl
  | n + 1, g, p, hp => by
    rcases hp with rfl | ⟨q, hq, hpq⟩
    · rw [climb_none (find_zero _), climb_none (find_zero _)]
    · have hq2 : findT (L.filter P) p = some q := by rw [find_filter h, hq]; simp [hpq]
      rw [climb_some hq, climb_some hq2]
      refine climb_filter h hP n _ _ ?_
      rcases h.shut hq with h0 | ⟨r, hr⟩
      · exact .inl h0
      · exact .inr ⟨r, hr, hP q (find_mem hq).1 hpq r hr⟩
theorem grants_filter {L : List Tk} (h : GoodT L) {P : Tk → Bool} (hP : Kept L P) {k : Tk} (hk : k ∈ L) (hpk : P k = true) : grantsT (L.filter P) k = grantsT L k := by
  unfold grantsT
  rw [← climb_stay (good_filter h hP) L.length k.g k.p (List.length_filter_le _ _)]
  refine climb_filter h hP _ _ _ ?_
  rcases (h.mem k hk).2.1 with h0 | ⟨q, hq⟩
  · exact .inl h0
  · exact .inr ⟨q, hq, hP k hk hpk q hq⟩
/-- Those that are not over. -/
def leftT (L : List Tk) (now : Int) : List Tk := L.filter fun k => decide (now ≤ (grantsT L k).til)
theorem left_kept {L : List Tk} (h : GoodT L) (now : Int) : Kept L fun k => decide (now ≤ (grantsT L k).til) := fun k hk hp q hq => by
  simp only [decide_eq_true_eq] at *
  exact Int.le_trans hp (grants_up h hq)
theorem left_good {L : List Tk} (h : GoodT L) (now : Int) : GoodT (leftT L now) := good_filter h (left_kept h now)
theorem left_len (L : List Tk) (now : Int) : (leftT L now).length ≤ L.length := List.length_filter_le _ _
theorem left_grants {L : List Tk} (h : GoodT L) {now : Int} {k : Tk} (hk : k ∈ leftT L now) : grantsT (leftT L now) k = grantsT L k := by
  have := List.mem_filter.1 hk
  exact grants_filter h (left_kept h now) this.1 this.2
theorem left_of {L : List Tk} {now : Int} (h : ∀ k ∈ L, now ≤ (grantsT L k).til) : leftT L now = L := List.filter_eq_self.2 fun k hk => by simpa using h k hk
theorem left_til {L : List Tk} (h : GoodT L) {now : Int} {k : Tk} (hk : k ∈ leftT L now) : now ≤ (grantsT (leftT L now) k).til := by
  rw [left_grants h hk]
  simpa using (List.mem_filter.1 hk).2
theorem left_left {L : List Tk} (h : GoodT L) (now : Int) : leftT (leftT L now) now = leftT L now := left_of fun k hk => left_til h hk
theorem left_zero {L : List Tk} (h : GoodT L) : leftT L 0 = L := left_of fun k hk => (rightG_iff.1 (grants_right h hk)).2.2.2.2.1

/-- A ticket that is the one with a secret, or was made of it. -/
def underT (L : List Tk) (s : Nat) : Nat → Tk → Bool
  | 0, _ => false
  | n + 1, k => if k.s = s then true else match findT L k.p with
    | none => false
    | some q => underT L s n q
theorem under_is {L : List Tk} {s : Nat} {k : Tk} (h : k.s = s) (n : Nat) : underT L s (n + 1) k = true := by rw [underT, if_pos h]
theorem under_none {L : List Tk} {s : Nat} {k : Tk} (h : k.s ≠ s) (hf : findT L k.p = none) (n : Nat) : underT L s n k = false := by
  cases n with
  | zero => rfl
  | succ n => rw [underT, if_neg h, hf]
theorem under_some {L : List Tk} {s : Nat} {k q : Tk} (h : k.s ≠ s) (hf : findT L k.p = some q) (n : Nat) : underT L s (n + 1) k = underT L s n q := by
  rw [underT, if_neg h, hf]
theorem under_snoc {L : List Tk} (h : GoodT L) (x : Tk) (s : Nat) : ∀ (n : Nat) (k : Tk), Shut L k.p → underT (L ++ [x]) s n k = underT L s n k
  | 0, _, _ => rfl
  | n + 1, k, hk => by
    by_cases he : k.s = s
    · rw [under_is he, under_is he]
    · cases hf : findT L k.p with
      | none => rw [under_none he hf, under_none he ((hk.find x).trans hf)]
      | some q => rw [under_some he hf, under_some he ((hk.find x).trans hf), under_snoc h x s n q (h.shut hf)]
theorem under_stay {L : List Tk} (h : GoodT L) (s : Nat) : ∀ (n : Nat) (k : Tk), L.length + 1 ≤ n → underT L s n k = underT L s (L.length + 1) k := by
  induction h with
  | nil =>
    intro n k hn
    obtain ⟨m, rfl⟩ : ∃ m, n = m + 1 := ⟨n - 1, by omega⟩
    by_cases he : k.s = s
    · rw [under_is he, under_is he]
    · rw [under_none he (by unfold findT; simp), under_none he (by unfold findT; simp)]
  | @snoc L x hL h1 h2 h3 h4 ih =>
    have hlen : (L ++ [x]).length = L.length + 1 := by simp
    have key : ∀ (n : Nat) (k : Tk), L.length + 2 ≤ n → underT (L ++ [x]) s n k = if k.s = s then true else match findT (L ++ [x]) k.p with
      | none => false
      | some q => underT L s (L.length + 1) q := by
      intro n k hn
      obtain ⟨m, rfl⟩ : ∃ m, n = m + 1 := ⟨n - 1, by omega⟩
      by_cases he : k.s = s
      · rw [under_is he, if_pos he]
      · rw [if_neg he]
        cases hf : findT (L ++ [x]) k.p with
        | none => rw [under_none he hf]
        | some q =>
          rw [under_some he hf]
          have hq : Shut L q.p := by
            rw [find_snoc] at hf
            cases hg : findT L k.p with
            | some r =>
              rw [hg] at hf
              simp at hf
              subst hf
              exact hL.shut hg
            | none =>
              rw [hg] at hf
              simp at hf
              rw [← hf.2]
              exact h3
          rw [under_snoc hL x s m _ hq]
          exact ih m _ (by omega)
    intro n k hn
    rw [hlen] at hn ⊢
    rw [key n k hn, key _ k (Nat.le_refl _)]
def undT (L : List Tk) (s : Nat) (k : Tk) : Bool := underT L s (L.length + 1) k
theorem und_up {L : List Tk} (h : GoodT L) {s : Nat} {k q : Tk} (he : k.s ≠ s) (hq : findT L k.p = some q) : undT L s k = undT L s q := by
  unfold undT
  rw [← under_stay h s (L.length + 1 + 1) k (by omega), under_some he hq]
def withoutT (L : List Tk) (s : Nat) : List Tk := L.filter fun k => !undT L s k
theorem without_kept {L : List Tk} (h : GoodT L) (s : Nat) : Kept L fun k => !undT L s k := fun k hk hp q hq => by
  simp only [Bool.not_eq_true'] at *
  have he : k.s ≠ s := by
    intro he
    unfold undT at hp
    rw [under_is he] at hp
    cases hp
  rw [← und_up h he hq]
  exact hp
theorem without_good {L : List Tk} (h : GoodT L) (s : Nat) : GoodT (withoutT L s) := good_filter h (without_kept h s)
theorem without_len (L : List Tk) (s : Nat) : (withoutT L s).length ≤ L.length := List.length_filter_le _ _
theorem without_left {L : List Tk} (h : GoodT L) (now : Int) (s : Nat) (hl : ∀ k ∈ L, now ≤ (grantsT L k).til) : leftT (withoutT L s) now = withoutT L s := left_of fun k hk => by
  have := List.mem_filter.1 hk
  rw [show grantsT (withoutT L s) k = grantsT L k from grants_filter h (without_kept h s) this.1 this.2]
  exact hl k this.1
theorem without_none {L : List Tk} (h : GoodT L) (s : Nat) : findT (withoutT L s) s = none := by
  unfold withoutT
  rw [find_filter h]
  cases hf : findT L s with
  | none => rfl
  | some q =>
    have := (find_mem hf).2.1
    simp [undT, under_is this]
/-- The secrets that go, from the first ticket on. -/
def goneT (s : Nat) : List Tk → List Nat → List Nat
  | [], G => G
  | k :: L, G => goneT s L (if k.p ∈ G then G ++ [k.s] else G)
theorem gone_snoc (s : Nat) : ∀ (L : List Tk) (x : Tk) (G : List Nat), goneT s (L ++ [x]) G = if x.p ∈ goneT s L G then goneT s L G ++ [x.s] else goneT s L G
  | [], x, G => rfl
  | k :: L, x, G => by simp only [List.cons_append, goneT]; exact gone_snoc s L x _
theorem gone_from {s : Nat} {L : List Tk} (h : GoodT L) : ∀ t ∈ goneT s L [s], t = s ∨ ∃ k ∈ L, k.s = t := by
  induction h with
  | nil => intro t ht; left; simpa [goneT] using ht
  | @snoc L x hL h1 h2 h3 h4 ih =>
    intro t ht
    rw [gone_snoc] at ht
    have : t ∈ goneT s L [s] ∨ t = x.s := by
      split at ht
      · rcases List.mem_append.1 ht with h | h
        · exact .inl h
        · exact .inr (by simpa using h)
      · exact .inl ht
    rcases this with h | h
    · rcases ih t h with h | ⟨k, hk, e⟩
      · exact .inl h
      · exact .inr ⟨k, by simp [hk], e⟩
    · exact .inr ⟨x, by simp, h.symm⟩
theorem und_snoc {L : List Tk} (h : GoodT L) {x : Tk} (hx : GoodT (L ++ [x])) (s : Nat) {k : Tk} (hk : Shut L k.p) : undT (L ++ [x]) s k = undT L s k := by
  unfold undT
  rw [under_snoc h x s _ k hk]
  exact under_stay h s _ k (by simp)
/-- Those are the ones that go that are under it. -/
theorem gone_iff {s : Nat} (h0 : s ≠ 0) {L : List Tk} (h : GoodT L) : ∀ k ∈ L, (k.s ∈ goneT s L [s] ↔ undT L s k = true) := by
  induction h with
  | nil => intro k hk; cases hk
  | @snoc L x hL h1 h2 h3 h4 ih =>
    have hx : GoodT (L ++ [x]) := .snoc hL h1 h2 h3 h4
    have hmem : ∀ t, t ∈ goneT s (L ++ [x]) [s] ↔ t ∈ goneT s L [s] ∨ (x.p ∈ goneT s L [s] ∧ t = x.s) := by
      intro t
      rw [gone_snoc]
      split <;> rename_i hp <;> simp [hp]
    intro k hk
    rw [hmem]
    rcases List.mem_append.1 hk with hk | hk
    · rw [und_snoc hL hx s (hL.mem k hk).2.1, ← ih k hk]
      constructor
      · rintro (h | ⟨_, h⟩)
        · exact h
        · exact absurd h (find_none h2 hk h1)
      · exact .inl
    · obtain rfl : k = x := by simpa using hk
      by_cases he : k.s = s
      · have : undT (L ++ [k]) s k = true := by unfold undT; exact under_is he _
        rw [this]
        simp only [iff_true]
        left
        rw [he]
        have hin : ∀ (M : List Tk) (G : List Nat), s ∈ G → s ∈ goneT s M G := by
          intro M
          induction M with
          | nil => intro G hG; exact hG
          | cons y M ihM =>
            intro G hG
            simp only [goneT]
            refine ihM _ ?_
            split
            · simp [hG]
            · exact hG
        exact hin L [s] (by simp)
      · have hnot : k.s ∉ goneT s L [s] := by
          intro hin
          rcases gone_from hL _ hin with h | ⟨q, hq, e⟩
          · exact he h
          · exact find_none h2 hq h1 e
        simp only [hnot, false_or, and_true]
        rw [und_snoc hL hx s h3]
        rcases h3 with h3 | ⟨q, hq⟩
        · have hp0 : k.p ∉ goneT s L [s] := by
            rw [h3]
            intro hin
            rcases gone_from hL _ hin with h | ⟨r, hr, e⟩
            · exact h0 h.symm
            · exact (hL.mem r hr).1 e
          have : undT L s k = false := by unfold undT; exact under_none he (by rw [h3]; exact find_zero _) _
          simp [hp0, this]
        · have hm := find_mem hq
          rw [und_up hL he hq, ← ih q hm.1, hm.2.1]
theorem gone_without {s : Nat} (h0 : s ≠ 0) {L : List Tk} (h : GoodT L) : (L.filter fun k => !decide (k.s ∈ goneT s L [s])) = withoutT L s := by
  unfold withoutT
  refine List.filter_congr fun k hk => ?_
  congr 1
  rw [Bool.eq_iff_iff, decide_eq_true_eq]
  exact gone_iff h0 h k hk

/-- A ticket made. -/
def makeE (L : List Tk) (draw : Nat) (g : Gr) : Int := if rightG g = false then 1 else if draw = 0 then 40 else if (findT L draw).isSome = true then 20 else if 8 ≤ L.length then 22 else 0
def makeT (L : List Tk) (fr draw : Nat) (g : Gr) : List Tk := if makeE L draw g = 0 then L ++ [⟨draw, fr, g⟩] else L
theorem make_zero {L : List Tk} {draw : Nat} {g : Gr} (h : makeE L draw g = 0) : rightG g = true ∧ draw ≠ 0 ∧ findT L draw = none ∧ L.length < 8 := by
  unfold makeE at h
  split at h
  · exact absurd h (by decide)
  · split at h
    · exact absurd h (by decide)
    · split at h
      · exact absurd h (by decide)
      · split at h
        · exact absurd h (by decide)
        · rename_i h1 h2 h3 h4
          refine ⟨by simpa using h1, h2, ?_, by omega⟩
          cases hf : findT L draw with
          | none => rfl
          | some q => rw [hf] at h3; simp at h3
theorem make_good {L : List Tk} (h : GoodT L) (hl : L.length ≤ 8) {fr draw : Nat} {g : Gr} (hf : Shut L fr) : GoodT (makeT L fr draw g) ∧ (makeT L fr draw g).length ≤ 8 := by
  unfold makeT
  split
  · rename_i h0
    obtain ⟨a, b, c, d⟩ := make_zero h0
    exact ⟨.snoc h b c hf a, by simp; omega⟩
  · exact ⟨h, hl⟩

/-- A table that may be, taken apart. -/
theorem good_last {L : List Tk} {k : Tk} (h : GoodT (L ++ [k])) : GoodT L ∧ k.s ≠ 0 ∧ findT L k.s = none ∧ Shut L k.p ∧ rightG k.g = true := by
  generalize hM : L ++ [k] = M at h
  cases h with
  | nil => exact absurd hM (by simp)
  | @snoc L' k' h h1 h2 h3 h4 =>
    obtain ⟨rfl, e⟩ := List.append_inj' hM rfl
    obtain rfl : k = k' := by simpa using e
    exact ⟨h, h1, h2, h3, h4⟩
theorem take_snoc {L : List Tk} {i : Nat} (h : i < L.length) : L.take (i + 1) = L.take i ++ [L.getD i t0] := by
  rw [List.take_succ_eq_append_getElem h]
  simp [List.getD, List.getElem?_eq_getElem h]
theorem good_take {L : List Tk} (h : GoodT L) : ∀ j, GoodT (L.take (L.length - j))
  | 0 => by simpa using h
  | j + 1 => by
    have ih := good_take h j
    by_cases hj : j < L.length
    · rw [show L.length - j = L.length - (j + 1) + 1 by omega, take_snoc (by omega)] at ih
      exact (good_last ih).1
    · rw [show L.length - (j + 1) = L.length - j by omega]
      exact ih
theorem good_at {L : List Tk} (h : GoodT L) {i : Nat} (hi : i < L.length) : GoodT (L.take i) ∧ (L.getD i t0).s ≠ 0 ∧ findT (L.take i) (L.getD i t0).s = none ∧ Shut (L.take i) (L.getD i t0).p ∧ rightG (L.getD i t0).g = true := by
  have h1 := good_take h (L.length - (i + 1))
  rw [show L.length - (L.length - (i + 1)) = i + 1 by omega, take_snoc hi] at h1
  exact good_last h1
end Go.Proofs.Ytjfgjlklbepnjaa
