/- What a reader finds in an answer's bytes is what was written: plain facts on lists of bytes. No condition. -/
import Derived.Test.YtdjkhcnejbinjaaRepQ
namespace Go.Proofs.Ytdjkhcnejbinjaa
open Go.RowKit
set_option linter.unusedSimpArgs false
set_option linter.unusedVariables false
set_option maxRecDepth 2000

theorem getF_same {f g : Nat → Int} : ∀ {k : Nat}, (∀ j, j < k → f j = g j) → getF f k = getF g k
  | 0, _ => rfl
  | k + 1, h => by rw [getF, getF, getF_same (fun j hj => h j (by omega)), h k (by omega)]
theorem getF_putI : ∀ (wide : Nat) (n : Int), fitsW n wide → getF (putI n wide) wide = n
  | 0, n, h => by
    have h0 := h.1
    have h1 := h.2
    simp at h1
    simp [getF]
    omega
  | k + 1, n, h => by
    have h0 := h.1
    have h1 := h.2
    rw [Int.pow_succ] at h1
    rw [getF, getF_same (g := putI (n / 256) k) (fun j hj => by rw [putI_step (by omega), if_pos hj]), getF_putI k (n / 256) ⟨Int.ediv_nonneg h0 (by decide), Int.ediv_lt_of_lt_mul (by decide) h1⟩, putI_step (by omega), if_neg (by omega)]
    omega
/-- The list l stands in L from a place on. -/
def Pre (L : List Nat) (off : Nat) (l : List Nat) : Prop := ∀ j, j < l.length → L.getD (off + j) 0 = l.getD j 0
section
variable {L a b : List Nat} {off : Nat}
theorem Pre.left (h : Pre L off (a ++ b)) : Pre L off a := fun j hj => by
  rw [h j (by rw [List.length_append]; omega)]
  simp [List.getD, List.getElem?_append_left hj]
theorem Pre.right (h : Pre L off (a ++ b)) : Pre L (off + a.length) b := fun j hj => by
  have h1 := h (a.length + j) (by rw [List.length_append]; omega)
  rw [Nat.add_assoc, h1]
  simp [List.getD, List.getElem?_append_right]
theorem Pre.num {v : Int} {wide : Nat} (h : Pre L off (wL v wide)) (hv : fitsW v wide) : numR L off wide = v := by
  unfold numR
  rw [getF_same (g := putI v wide) (fun j hj => ?_), getF_putI wide v hv]
  have h1 := h j (by rw [wL_len]; exact hj)
  have h2 := putI_bd v wide j
  unfold atI
  rw [h1]
  simp [wL, List.getD, hj]
  omega
theorem pre_start (l r : List Nat) : Pre (l ++ r) 0 l := fun j hj => by
  rw [Nat.zero_add]
  simp [List.getD, List.getElem?_append_left hj]
theorem Pre.set (h : Pre L off a) {i v : Nat} (hi : off + a.length ≤ i) : Pre (L.set i v) off a := fun j hj => by
  rw [← h j hj]
  simp only [List.getD]
  rw [List.getElem?_set_ne (by omega)]
theorem Pre.at_ {off' : Nat} (h : Pre L off a) (e : off = off') : Pre L off' a := e ▸ h
theorem Pre.many {F : Nat → List Nat} {c : Nat} (hl : ∀ i, (F i).length = c) : ∀ {n : Nat}, Pre L off (manyL F n) → ∀ i, i < n → Pre L (off + i * c) (F i)
  | 0, _, i, hi => absurd hi (by omega)
  | n + 1, h, i, hi => by
    rw [manyL_succ] at h
    rcases (show i < n ∨ i = n by omega) with h1 | rfl
    · exact Pre.many hl h.left i h1
    · have h2 := h.right
      rwa [manyL_len hl] at h2
end
theorem wsL_cons (n : Int) (r : List Int) (wide : Nat) : wsL (n :: r) wide = wL n wide ++ wsL r wide := by simp [wsL]
theorem wsL_nil (wide : Nat) : wsL [] wide = [] := rfl

/-! ### what is read -/
/-- The numbers of an item: Seen, Event. -/
def rdF (L : List Nat) (off i : Nat) : Nat → Int
  | 0 => numR L (off + i * 11) 2
  | 1 => numR L (off + i * 11 + 2) 1
  | 2 => numR L (off + i * 11 + 3) 2
  | 3 => numR L (off + i * 11 + 5) 2
  | 4 => numR L (off + i * 11 + 7) 2
  | _ => numR L (off + i * 11 + 9) 2
def rdG (L : List Nat) (off i : Nat) : Nat → Int
  | 0 => numR L (off + i * 8) 2
  | 1 => numR L (off + i * 8 + 2) 1
  | 2 => numR L (off + i * 8 + 3) 1
  | _ => numR L (off + i * 8 + 4) 4
theorem pre_seen {L : List Nat} {f : Nat → Nat → Int} {off i : Nat} (h : Pre L (off + i * 11) (seenL f i)) (ho : seenOk f i) : ∀ j, j < 6 → rdF L off i j = f i j := by
  obtain ⟨o0, o1, o2⟩ := ho
  rw [right_iff] at o2
  unfold seenL at h
  simp only [wsL_cons, wsL_nil, List.append_nil] at h
  have h0 := h.left.num (by unfold fitsW; omega)
  have h1' := h.right
  rw [wL_len] at h1'
  have h1 := h1'.left.num (by unfold fitsW; omega)
  have h2' := h1'.right
  rw [wL_len] at h2'
  have h2 := h2'.left.num (by unfold fitsW; omega)
  have h3' := h2'.right
  rw [wL_len] at h3'
  have h3 := h3'.left.num (by unfold fitsW; omega)
  have h4' := h3'.right
  rw [wL_len] at h4'
  have h4 := h4'.left.num (by unfold fitsW; omega)
  have h5' := h4'.right
  rw [wL_len] at h5'
  have h5 := h5'.num (by unfold fitsW; omega)
  intro j hj
  rcases (show j = 0 ∨ j = 1 ∨ j = 2 ∨ j = 3 ∨ j = 4 ∨ j = 5 by omega) with rfl | rfl | rfl | rfl | rfl | rfl
  · exact h0
  · exact h1
  · exact h2
  · exact h3
  · exact h4
  · exact h5
theorem pre_ev {L : List Nat} {g : Nat → Nat → Int} {off i : Nat} (h : Pre L (off + i * 8) (evL g i)) (ho : evOk g i) : ∀ j, j < 4 → rdG L off i j = g i j := by
  obtain ⟨o0, ⟨o1, o2⟩, o3⟩ := ho
  unfold evL at h
  simp only [wsL_cons, wsL_nil, List.append_nil, List.append_assoc] at h
  have h0 := h.left.num (by unfold fitsW; omega)
  have h1' := h.right
  rw [wL_len] at h1'
  have h1 := h1'.left.num (by unfold fitsW; omega)
  have h2' := h1'.right
  rw [wL_len] at h2'
  have h2 := h2'.left.num (by unfold fitsW; omega)
  have h3' := h2'.right
  rw [wL_len] at h3'
  have h3 := h3'.num (by unfold fitsW; omega)
  intro j hj
  rcases (show j = 0 ∨ j = 1 ∨ j = 2 ∨ j = 3 by omega) with rfl | rfl | rfl | rfl
  · exact h0
  · exact h1
  · exact h2
  · exact h3
/-- There is more to be read. -/
def rdOn (op m : Int) (L : List Nat) : Prop := numR L 0 1 = 0 ∧ numR L 2 1 ≤ m ∧ (numR L 2 1 = 0 ∨ 0 < eachI op)
instance (op m : Int) (L : List Nat) : Decidable (rdOn op m L) := by unfold rdOn; infer_instance
/-- A number that an answer to some operations has. -/
def rdN (op m : Int) (L : List Nat) (c : Prop) [Decidable c] (off wide : Nat) : Int := if rdOn op m L ∧ c then numR L off wide else 0
def rdNs (op m : Int) (L : List Nat) : Nat := if rdOn op m L ∧ ¬ (op = 17 ∨ op = 18) then (numR L 2 1).toNat else 0
def rdNe (op m : Int) (L : List Nat) : Nat := if rdOn op m L ∧ (op = 17 ∨ op = 18) then (numR L 2 1).toNat else 0
theorem each_ev (op : Int) : (op = 17 ∨ op = 18) ↔ eachI op = 8 := by
  unfold eachI
  constructor
  · intro h
    rw [if_neg (by omega), if_pos h]
  · intro h
    split at h
    · omega
    · split at h
      · assumption
      · omega
theorem each_once {op : Int} (h : 0 < eachI op) : onceI op = 0 := by
  unfold eachI at h
  unfold onceI
  split at h
  · rw [if_neg (by omega), if_neg (by omega), if_neg (by omega)]
  · split at h
    · rw [if_neg (by omega), if_neg (by omega), if_neg (by omega)]
    · omega
/-- What is written is read as it was. -/
theorem read_back {op m s k id x y lab b0 b1 b2 b3 : Int} {ns ne : Nat} {f g : Nat → Nat → Int} {L : List Nat} (hf : fitsA op m s k id x y lab b0 b1 b2 b3 ns ne f g) (hk0 : 0 ≤ k) (hk1 : k ≤ 18446744073709551615) (h : Pre L 0 (encL op s k x y lab b0 b1 b2 b3 ns ne f g)) :
    numR L 0 1 = s ∧ rdN op m L (op = 4 ∨ op = 5) 3 8 = k ∧ id = 0 ∧ rdN op m L (op = 12) 3 2 = x ∧ rdN op m L (op = 12) 5 2 = y ∧ rdN op m L (op = 12) 7 1 = lab ∧ rdN op m L (op = 10) 3 2 = b0 ∧ rdN op m L (op = 10) 5 2 = b1 ∧ rdN op m L (op = 10) 7 2 = b2 ∧ rdN op m L (op = 10) 9 2 = b3
      ∧ rdNs op m L = ns ∧ rdNe op m L = ne ∧ (∀ i, i < ns → ∀ j, j < 6 → rdF L 3 i j = f i j) ∧ ∀ i, i < ne → ∀ j, j < 4 → rdG L 3 i j = g i j := by
  obtain ⟨ht, hs, hc⟩ := hf
  have ht' : 1 ≤ op ∧ op ≤ 19 ∧ 0 ≤ m ∧ m ≤ 64 := by simp [thereB] at ht; omega
  unfold encL at h
  have hh := h.left
  have hr := h.right
  rw [wsL_len] at hr
  simp only [wsL_cons, wsL_nil, List.append_nil] at hh
  have e0 := hh.left.num (by unfold fitsW; omega)
  have h1' := hh.right
  rw [wL_len] at h1'
  have h2' := h1'.right
  rw [wL_len] at h2'
  have hoff : 0 + [s, op, (ns : Int) + ne].length * 1 = 3 := rfl
  rw [hoff] at hr
  by_cases h0 : s = 0
  · subst h0
    rw [if_pos rfl] at hr hc
    obtain ⟨ho, hi, hF, hG⟩ := hc
    obtain ⟨i1, i2, i3, i4⟩ := hi
    have hsum : ns + ne ≤ 64 ∧ ((ns : Int) + ne ≤ m) ∧ ((ns : Int) + ne = 0 ∨ 0 < eachI op) := by
      rcases each_cases op with he | he | he <;> (rw [he] at i1 i2 ⊢; omega)
    have e2 : numR L 2 1 = (ns : Int) + ne := h2'.num (by unfold fitsW; omega)
    have hon : rdOn op m L := ⟨e0, by rw [e2]; exact hsum.2.1, by rw [e2]; exact hsum.2.2⟩
    have hN : rdNs op m L = ns ∧ rdNe op m L = ne := by
      unfold rdNs rdNe
      rw [e2]
      by_cases hv : op = 17 ∨ op = 18
      · rw [if_neg (fun h => h.2 hv), if_pos ⟨hon, hv⟩]
        have := (each_ev op).1 hv
        rw [this] at i1 i2
        omega
      · rw [if_pos ⟨hon, hv⟩, if_neg (fun h => hv h.2)]
        have : eachI op ≠ 8 := fun h => hv ((each_ev op).2 h)
        omega
    have hit := hr.right
    have hlen := onceL_len op k x y lab b0 b1 b2 b3
    have hitems : 0 < ns + ne → 3 + (onceL op k x y lab b0 b1 b2 b3).length = 3 := fun hp => by
      have : onceI op = 0 := each_once (by omega)
      omega
    have hFF : ∀ i, i < ns → ∀ j, j < 6 → rdF L 3 i j = f i j := fun i hi => by
      rw [hitems (by omega)] at hit
      exact pre_seen (Pre.many (seenL_len f) hit.left i hi) (hF i hi)
    have hGG : ∀ i, i < ne → ∀ j, j < 4 → rdG L 3 i j = g i j := fun i hi => by
      have hz : ns = 0 := by
        rcases each_cases op with he | he | he <;> (rw [he] at i1 i2; omega)
      rw [hitems (by omega)] at hit
      have := hit.right
      rw [hz] at this
      exact pre_ev (Pre.many (evL_len g) this i hi) (hG i hi)
    have hone := hr.left
    refine ⟨e0, ?_⟩
    unfold rdN
    by_cases h45 : op = 4 ∨ op = 5
    · unfold onceOk at ho
      rw [if_pos h45] at ho
      unfold onceL at hone
      rw [if_pos h45] at hone
      rw [if_pos ⟨hon, h45⟩, if_neg (by omega), if_neg (by omega), if_neg (by omega), if_neg (by omega), if_neg (by omega), if_neg (by omega), if_neg (by omega)]
      exact ⟨hone.num ⟨hk0, by omega⟩, ho.1, ho.2.1.symm, ho.2.2.1.symm, ho.2.2.2.1.symm, ho.2.2.2.2.1.symm, ho.2.2.2.2.2.1.symm, ho.2.2.2.2.2.2.1.symm, ho.2.2.2.2.2.2.2.symm, hN.1, hN.2, hFF, hGG⟩
    · unfold onceOk at ho
      rw [if_neg h45] at ho
      unfold onceL at hone
      rw [if_neg h45] at hone
      rw [if_neg (fun h => h45 h.2)]
      by_cases h12 : op = 12
      · rw [if_pos h12] at ho hone
        obtain ⟨of, ol1, ol2, ok, oid, ob0, ob1, ob2, ob3⟩ := ho
        rw [fits_iff] at of
        simp only [wsL_cons, wsL_nil, List.append_nil, List.append_assoc] at hone
        have g0 := hone.left.num (by unfold fitsW; omega)
        have g1' := hone.right
        rw [wL_len] at g1'
        have g1 := g1'.left.num (by unfold fitsW; omega)
        have g2' := g1'.right
        rw [wL_len] at g2'
        have g2 := g2'.num (by unfold fitsW; omega)
        rw [if_pos ⟨hon, h12⟩, if_pos ⟨hon, h12⟩, if_pos ⟨hon, h12⟩, if_neg (by omega), if_neg (by omega), if_neg (by omega), if_neg (by omega)]
        exact ⟨ok.symm, oid, g0, g1, g2, ob0.symm, ob1.symm, ob2.symm, ob3.symm, hN.1, hN.2, hFF, hGG⟩
      · rw [if_neg h12] at ho hone
        rw [if_neg (fun h => h12 h.2), if_neg (fun h => h12 h.2), if_neg (fun h => h12 h.2)]
        by_cases h10 : op = 10
        · rw [if_pos h10] at ho hone
          obtain ⟨ob, ok, oid, ox, oy, ol⟩ := ho
          rw [right_iff] at ob
          simp only [wsL_cons, wsL_nil, List.append_nil] at hone
          have g0 := hone.left.num (by unfold fitsW; omega)
          have g1' := hone.right
          rw [wL_len] at g1'
          have g1 := g1'.left.num (by unfold fitsW; omega)
          have g2' := g1'.right
          rw [wL_len] at g2'
          have g2 := g2'.left.num (by unfold fitsW; omega)
          have g3' := g2'.right
          rw [wL_len] at g3'
          have g3 := g3'.num (by unfold fitsW; omega)
          rw [if_pos ⟨hon, h10⟩, if_pos ⟨hon, h10⟩, if_pos ⟨hon, h10⟩, if_pos ⟨hon, h10⟩]
          exact ⟨ok.symm, oid, ox.symm, oy.symm, ol.symm, g0, g1, g2, g3, hN.1, hN.2, hFF, hGG⟩
        · rw [if_neg h10] at ho
          rw [if_neg (fun h => h10 h.2), if_neg (fun h => h10 h.2), if_neg (fun h => h10 h.2), if_neg (fun h => h10 h.2)]
          obtain ⟨ok, oid, ox, oy, ol, o0, o1, o2, o3⟩ := ho
          exact ⟨ok.symm, oid, ox.symm, oy.symm, ol.symm, o0.symm, o1.symm, o2.symm, o3.symm, hN.1, hN.2, hFF, hGG⟩
  · rw [if_neg h0] at hc
    obtain ⟨ho, rfl, rfl⟩ := hc
    have hon : ¬ rdOn op m L := fun h => h0 (by rw [← e0]; exact h.1)
    unfold rdN rdNs rdNe
    simp only [hon, false_and, if_false]
    have ho' : k = 0 ∧ id = 0 ∧ x = 0 ∧ y = 0 ∧ lab = 0 ∧ b0 = 0 ∧ b1 = 0 ∧ b2 = 0 ∧ b3 = 0 := ho
    obtain ⟨ok, oid, ox, oy, ol, o0, o1, o2, o3⟩ := ho'
    exact ⟨e0, ok.symm, oid, ox.symm, oy.symm, ol.symm, o0.symm, o1.symm, o2.symm, o3.symm, trivial, trivial, fun i hi => absurd hi (by omega), fun i hi => absurd hi (by omega)⟩
theorem wsL_sing (F : Nat → List Nat) (G : Nat → List Nat) (n : Nat) (h : ∀ i, i < n → F i = G i) : manyL F n = manyL G n := by
  unfold manyL
  induction n with
  | zero => rfl
  | succ n ih => rw [List.range_succ, List.flatMap_append, List.flatMap_append, ih (fun i hi => h i (by omega))]; simp [h n (by omega)]
theorem encL_congr {op s k x y lab b0 b1 b2 b3 : Int} {ns ne : Nat} {f g f' g' : Nat → Nat → Int} (h1 : ∀ i, i < ns → ∀ j, j < 6 → f' i j = f i j) (h2 : ∀ i, i < ne → ∀ j, j < 4 → g' i j = g i j) :
    encL op s k x y lab b0 b1 b2 b3 ns ne f' g' = encL op s k x y lab b0 b1 b2 b3 ns ne f g := by
  unfold encL
  rw [wsL_sing (seenL f') (seenL f) ns (fun i hi => by
    unfold seenL
    rw [h1 i hi 0 (by omega), h1 i hi 1 (by omega), h1 i hi 2 (by omega), h1 i hi 3 (by omega), h1 i hi 4 (by omega), h1 i hi 5 (by omega)]), wsL_sing (evL g') (evL g) ne (fun i hi => by
    unfold evL
    rw [h2 i hi 0 (by omega), h2 i hi 1 (by omega), h2 i hi 2 (by omega), h2 i hi 3 (by omega)])]
theorem fitsA_congr {op m s k id x y lab b0 b1 b2 b3 : Int} {ns ne : Nat} {f g f' g' : Nat → Nat → Int} (h1 : ∀ i, i < ns → ∀ j, j < 6 → f' i j = f i j) (h2 : ∀ i, i < ne → ∀ j, j < 4 → g' i j = g i j) (h : fitsA op m s k id x y lab b0 b1 b2 b3 ns ne f g) :
    fitsA op m s k id x y lab b0 b1 b2 b3 ns ne f' g' := by
  obtain ⟨ht, hs, hc⟩ := h
  refine ⟨ht, hs, ?_⟩
  by_cases h0 : s = 0
  · rw [if_pos h0] at hc ⊢
    obtain ⟨ho, hi, hF, hG⟩ := hc
    refine ⟨ho, hi, fun i hi => ?_, fun i hi => ?_⟩
    · have := hF i hi
      unfold seenOk at this ⊢
      rw [h1 i hi 0 (by omega), h1 i hi 1 (by omega), h1 i hi 2 (by omega), h1 i hi 3 (by omega), h1 i hi 4 (by omega), h1 i hi 5 (by omega)]
      exact this
    · have := hG i hi
      unfold evOk at this ⊢
      rw [h2 i hi 0 (by omega), h2 i hi 1 (by omega), h2 i hi 2 (by omega), h2 i hi 3 (by omega)]
      exact this
  · rw [if_neg h0] at hc ⊢
    exact hc
end Go.Proofs.Ytdjkhcnejbinjaa
