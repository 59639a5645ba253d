/- Points in a row: put, counted, by the document. No condition beyond what the memory holds. -/
import Derived.Test.YthoanoaigfcchaaClB
import Derived.Test.YthoanoaigfcchaaCellC
import Derived.Test.YthoanoaigfcchaaApp
import Derived.Maps.AppendAt
import Derived.Deep.AppendLies
import Derived.IntWalk
namespace Go.Proofs.Ythoanoaigfcchaa
open Go.RowKit Go.Maps
set_option linter.unusedSimpArgs false
set_option linter.unusedVariables false
set_option maxRecDepth 2000

/-- A list of points read from memory. -/
def Pts (w : World) (B : Nat) (A : Option Addr) (P : List (Int × Int)) : Prop := 0 < P.length → ∃ b o, A = some ⟨b, o, none⟩ ∧ b < B ∧ ∀ i, i < P.length → w.cell? ⟨b, o + i * 2, none⟩ = some (.int .i64 (P.getD i (0, 0)).1) ∧ w.cell? ⟨b, o + i * 2 + 1, none⟩ = some (.int .i64 (P.getD i (0, 0)).2)
theorem Pts.keep {w w' : World} {B : Nat} {A : Option Addr} {P : List (Int × Int)} (h : Pts w B A P) (hb : Below B w w') : Pts w' B A P := fun hn => by
  obtain ⟨b, o, rfl, hlt, hc⟩ := h hn
  exact ⟨b, o, rfl, hlt, fun i hi => ⟨(hb.cell (p := ⟨b, o + i * 2, none⟩) hlt).trans (hc i hi).1, (hb.cell (p := ⟨b, o + i * 2 + 1, none⟩) hlt).trans (hc i hi).2⟩⟩
theorem Pts.more {w : World} {B B' : Nat} {A : Option Addr} {P : List (Int × Int)} (h : Pts w B A P) (hb : B ≤ B') : Pts w B' A P := fun hn => by
  obtain ⟨b, o, rfl, hlt, hc⟩ := h hn
  exact ⟨b, o, rfl, by omega, hc⟩
theorem Pts.kept {w w' : World} {B : Nat} {A : Option Addr} {P : List (Int × Int)} (h : Pts w B A P) (hk : KeptM w w') : Pts w' B A P := fun hn => by
  obtain ⟨b, o, rfl, hlt, hc⟩ := h hn
  exact ⟨b, o, rfl, hlt, fun i hi => ⟨hk.cell (hc i hi).1, hk.cell (hc i hi).2⟩⟩
/-- How many points of a list are in a rectangle. -/
def inL (P : List (Int × Int)) (a b c d : Int) : Nat := P.countP fun p => hasB a b c d p.1 p.2
theorem inL_take {P : List (Int × Int)} {k : Nat} (hk : k < P.length) (a b c d : Int) : (inL (P.take (k + 1)) a b c d : Int) = inL (P.take k) a b c d + if hasB a b c d (P.getD k (0, 0)).1 (P.getD k (0, 0)).2 = true then 1 else 0 := by
  unfold inL
  rw [List.take_succ_eq_append_getElem hk, List.countP_append]
  simp only [List.getD, List.getElem?_eq_getElem hk, Option.getD_some, List.countP_cons, List.countP_nil]
  split <;> simp
theorem inL_le (P : List (Int × Int)) (a b c d : Int) : inL P a b c d ≤ P.length := List.countP_le_length
set_option maxHeartbeats 4000000 in
theorem rhasl_any (A : Option Addr) (cp : Nat) (P : List (Int × Int)) (a b c d : Int) (w : World) (h : Pts w w.heap.size A P) (hn : P.length ≤ 1000000) :
    Calls Try.prog 16 #[.slice A P.length cp, .agg #[.int .i64 a, .int .i64 b, .int .i64 c, .int .i64 d]] w fun e w' => e = .returned (.int .i64 (inL P a b c d)) ∧ Below w.heap.size w w' := by
  obtain ⟨n, hnn⟩ : ∃ n, P.length = n := ⟨_, rfl⟩
  rw [hnn] at hn ⊢
  have HN := Lib.hid hnn
  have H := Lib.hid h
  have PH := Lib.hid (fun x y => rhas_any a b c d x y)
  clear h hnn
  go_enter Try.func16, Try.ntmps16
  go_wp2
  go_loopw [5, 6] (fun v i wr => ∃ k : Nat, k ≤ n ∧ v = .int .i64 (inL (P.take k) a b c d : Nat) ∧ i = .int .i64 k ∧ Below (w.heap.size + 1) (w.alloc (Obj.cells #[.int .i64 a, .int .i64 b, .int .i64 c, .int .i64 d] 33)) wr) (fun _ i _ => n - (intOf i).toNat)
  case atStart => exact ⟨0, Nat.zero_le _, by simp [inL], rfl, Below.refl _ _⟩
  case round =>
    obtain ⟨k, hk, rfl, rfl, hb⟩ := hrel
    have hsz := hb.size
    rw [World.size_alloc] at hsz
    obtain ⟨X, rfl⟩ : ∃ Z : Later (w.heap.size + 1) (w.alloc (Obj.cells #[.int .i64 a, .int .i64 b, .int .i64 c, .int .i64 d] 33)), wr = Z.w := ⟨⟨wr, hb⟩, rfl⟩
    clear hb
    have hle := inL_le (P.take k) a b c d
    rw [List.length_take] at hle
    have hle2 : inL (P.take k) a b c d ≤ 1000000 := by omega
    by_cases hlt : k < n
    · obtain ⟨g, o, hA, hbl, hc⟩ := H.out (by rw [HN.out]; omega)
      subst hA
      obtain ⟨k0, k1⟩ := hc k (by rw [HN.out]; exact hlt)
      have HT := Lib.hid (inL_take (P := P) (k := k) (by rw [HN.out]; exact hlt) a b c d)
      obtain ⟨x, hx⟩ : ∃ x, (P.getD k (0, 0)).1 = x := ⟨_, rfl⟩
      obtain ⟨y, hy⟩ : ∃ y, (P.getD k (0, 0)).2 = y := ⟨_, rfl⟩
      rw [hx] at k0 HT
      rw [hy] at k1 HT
      obtain ⟨t, ht⟩ : ∃ t, hasB a b c d x y = t := ⟨_, rfl⟩
      have p1 := PH.out x y
      rw [ht] at p1 HT
      have P1 := Lib.hid p1
      obtain ⟨v, hv⟩ : ∃ v, inL (P.take k) a b c d = v := ⟨_, rfl⟩
      rw [hv] at HT hle2 ⊢
      clear hc hx hy ht p1 hle hv
      have hi0 : (0 : Int) ≤ (k : Int) := Int.natCast_nonneg _
      have hi1 : (k : Int) < (n : Int) := by omega
      cases t
      all_goals
        go_wp2_with fail
        (refine wp_region_later (X.w.heap.size) (by kernel_rfl) (by kernel_rfl) (by go_size) ?_; (repeat (go_big_quiet_step ((first | (go_at_call 15; exact Later.call _ (Nat.le_trans (by go_size) (Later.is _).size) (P1.out _)))))); refine wpQuiet_nil ?_; intro Xq hlq hmq)
        go_wp2
        go_roundw
        case rel =>
          refine ⟨k + 1, by omega, ?_, by go_num, by repeat' (first | (with_reducible exact Below.refl _ _) | (with_reducible assumption) | (with_reducible refine Later.step ?_ ?_ _) | (with_reducible refine Below.alloc ?_ ?_ _) | (with_reducible refine Below.drew ?_) | (with_reducible refine bel_drewN ?_ _) | (with_reducible refine bel_grown ?_ (by assumption) ?_ ?_) | (with_reducible refine Below.setCell ?_ ?_ _) | go_size)⟩
          have h9 := HT.out
          first
            | (congr 1; rw [h9]; simp; done)
            | (rw [h9]; simp; done)
            | (rw [h9]; simp; omega)
        case measure => simp [intOf]; omega
    · have hkn : k = n := by omega
      have HKN := Lib.hid hkn
      clear hkn
      go_wp2
      go_ret
      refine ⟨ret_i ?_, by repeat' (first | (with_reducible exact Below.refl _ _) | (with_reducible assumption) | (with_reducible refine Later.step ?_ ?_ _) | (with_reducible refine Below.alloc ?_ ?_ _) | (with_reducible refine Below.drew ?_) | (with_reducible refine bel_drewN ?_ _) | (with_reducible refine bel_grown ?_ (by assumption) ?_ ?_) | (with_reducible refine Below.setCell ?_ ?_ _) | go_size)⟩
      rw [List.take_of_length_le (by rw [HN.out, HKN.out]; exact Nat.le_refl _)]
set_option maxHeartbeats 4000000 in
theorem rcount_any (A : Option Addr) (cp : Nat) (P : List (Int × Int)) (l x0 y0 : Int) (w : World) (h : Pts w w.heap.size A P) (hn : P.length ≤ 1000000) (hc : crightB l x0 y0 = true) :
    Calls Try.prog 53 #[.slice A P.length cp, .agg #[.int .i64 l, .int .i64 x0, .int .i64 y0]] w fun e w' => e = .returned (.int .i64 (inL P (x0 * sd l) (y0 * sd l) (x0 * sd l + sd l - 1) (y0 * sd l + sd l - 1))) ∧ Below w.heap.size w w' := by
  obtain ⟨n, hnn⟩ : ∃ n, P.length = n := ⟨_, rfl⟩
  rw [hnn] at hn ⊢
  have HN := Lib.hid hnn
  have H := Lib.hid h
  have pb := rbox_any l x0 y0
  rw [hc] at pb
  simp only [sel, if_true] at pb
  generalize x0 * sd l = a at *
  generalize y0 * sd l = b at *
  generalize a + sd l - 1 = c at *
  generalize b + sd l - 1 = d at *
  have PB := Lib.hid pb
  have PH := Lib.hid (fun x y => rhas_any a b c d x y)
  clear h hnn hc pb
  go_enter Try.func53, Try.ntmps53
  go_wp2_with (first
    | (go_at_call 18; refine (PB.out _).mono ?_; rintro e w' ⟨rfl, hb⟩; obtain ⟨X1, rfl, hl1, hm1⟩ := later _ hb (Nat.le_refl _); clear hb; (try simp only [World.size_alloc, World.size_setCell, World.size_drew] at hm1 hl1)))
  go_loopw [5, 8] (fun v i wr => ∃ k : Nat, k ≤ n ∧ v = .int .i64 (inL (P.take k) a b c d : Nat) ∧ i = .int .i64 k ∧ Below (X1.w.heap.size + 1) (X1.w.alloc (Obj.cells #[.int .i64 a, .int .i64 b, .int .i64 c, .int .i64 d] 33)) wr) (fun _ i _ => n - (intOf i).toNat)
  case atStart => exact ⟨0, Nat.zero_le _, by simp [inL], rfl, Below.refl _ _⟩
  case round =>
    obtain ⟨k, hk, rfl, rfl, hb⟩ := hrel
    have hsz := hb.size
    rw [World.size_alloc] at hsz
    obtain ⟨X, rfl⟩ : ∃ Z : Later (X1.w.heap.size + 1) (X1.w.alloc (Obj.cells #[.int .i64 a, .int .i64 b, .int .i64 c, .int .i64 d] 33)), wr = Z.w := ⟨⟨wr, hb⟩, rfl⟩
    clear hb
    have hle := inL_le (P.take k) a b c d
    rw [List.length_take] at hle
    have hle2 : inL (P.take k) a b c d ≤ 1000000 := by omega
    by_cases hlt : k < n
    · obtain ⟨g, o, hA, hbl, hc⟩ := H.out (by rw [HN.out]; omega)
      subst hA
      obtain ⟨k0, k1⟩ := hc k (by rw [HN.out]; exact hlt)
      have HT := Lib.hid (inL_take (P := P) (k := k) (by rw [HN.out]; exact hlt) a b c d)
      obtain ⟨x, hx⟩ : ∃ x, (P.getD k (0, 0)).1 = x := ⟨_, rfl⟩
      obtain ⟨y, hy⟩ : ∃ y, (P.getD k (0, 0)).2 = y := ⟨_, rfl⟩
      rw [hx] at k0 HT
      rw [hy] at k1 HT
      obtain ⟨t, ht⟩ : ∃ t, hasB a b c d x y = t := ⟨_, rfl⟩
      have p1 := PH.out x y
      rw [ht] at p1 HT
      have P1 := Lib.hid p1
      obtain ⟨v, hv⟩ : ∃ v, inL (P.take k) a b c d = v := ⟨_, rfl⟩
      rw [hv] at HT hle2 ⊢
      clear hc hx hy ht p1 hle hv
      have hi0 : (0 : Int) ≤ (k : Int) := Int.natCast_nonneg _
      have hi1 : (k : Int) < (n : Int) := by omega
      cases t
      all_goals
        go_wp2_with fail
        (refine wp_region_later (X.w.heap.size) (by kernel_rfl) (by kernel_rfl) (by go_size) ?_; (repeat (go_big_quiet_step ((first | (go_at_call 15; exact Later.call _ (Nat.le_trans (by go_size) (Later.is _).size) (P1.out _)))))); refine wpQuiet_nil ?_; intro Xq hlq hmq)
        go_wp2
        go_roundw
        case rel =>
          refine ⟨k + 1, by omega, ?_, by go_num, by repeat' (first | (with_reducible exact Below.refl _ _) | (with_reducible assumption) | (with_reducible refine Later.step ?_ ?_ _) | (with_reducible refine Below.alloc ?_ ?_ _) | (with_reducible refine Below.drew ?_) | (with_reducible refine bel_drewN ?_ _) | (with_reducible refine bel_grown ?_ (by assumption) ?_ ?_) | (with_reducible refine Below.setCell ?_ ?_ _) | go_size)⟩
          have h9 := HT.out
          first
            | (congr 1; rw [h9]; simp; done)
            | (rw [h9]; simp; done)
            | (rw [h9]; simp; omega)
        case measure => simp [intOf]; omega
    · have hkn : k = n := by omega
      have HKN := Lib.hid hkn
      clear hkn
      go_wp2
      go_ret
      refine ⟨ret_i ?_, by repeat' (first | (with_reducible exact Below.refl _ _) | (with_reducible assumption) | (with_reducible refine Later.step ?_ ?_ _) | (with_reducible refine Below.alloc ?_ ?_ _) | (with_reducible refine Below.drew ?_) | (with_reducible refine bel_drewN ?_ _) | (with_reducible refine bel_grown ?_ (by assumption) ?_ ?_) | (with_reducible refine Below.setCell ?_ ?_ _) | go_size)⟩
      rw [List.take_of_length_le (by rw [HN.out, HKN.out]; exact Nat.le_refl _)]
def pcode (x y : Int) : Int := sel (crightB 16 x y) (codeI 16 x y)
theorem pcode_bd (x y : Int) : 0 ≤ pcode x y := by
  unfold pcode sel
  split
  · unfold codeI; omega
  · omega
set_option maxHeartbeats 4000000 in
theorem pcode_any (x y : Int) (w : World) : Calls Try.prog 43 #[.agg #[.int .i64 x, .int .i64 y]] w fun e w' => e = .returned (.int .u64 (pcode x y)) ∧ Below w.heap.size w w' := by
  have P1 := Lib.hid (show ∀ Y : World, Calls Try.prog 57 #[.agg #[.int .i64 16, .int .i64 x, .int .i64 y]] Y fun e w' => e = .returned (.tuple #[.int .u64 (pcode x y), .bool (crightB 16 x y)]) ∧ Below Y.heap.size Y w' from fun Y => rcode_any 16 x y Y)
  generalize crightB 16 x y = t at *
  generalize pcode x y = v at *
  go_enter Try.func43, Try.ntmps43
  go_wp2_with (first
    | (go_at_call 57; refine (P1.out _).mono ?_; rintro e w' ⟨rfl, hb⟩; obtain ⟨X1, rfl, hl1, hm1⟩ := later _ hb (Nat.le_refl _); clear hb; (try simp only [World.size_alloc, World.size_setCell, World.size_drew] at hm1 hl1)))
  go_ret
  exact ⟨rfl, by repeat' (first | (with_reducible exact Below.refl _ _) | (with_reducible assumption) | (with_reducible refine Later.step ?_ ?_ _) | (with_reducible refine Below.alloc ?_ ?_ _) | (with_reducible refine Below.drew ?_) | (with_reducible refine bel_drewN ?_ _) | (with_reducible refine bel_grown ?_ (by assumption) ?_ ?_) | (with_reducible refine Below.setCell ?_ ?_ _) | go_size)⟩
theorem cell_two_new (w : World) (x y : Value) (t : TypeId) : ∀ j u, [x, y][j]? = some u → (w.alloc (.cells #[x, y] t)).cell? ((⟨w.heap.size, 0, none⟩ : Addr).add j) = some u := by
  intro j u hj
  match j, hj with
  | 0, hj => simp at hj; subst hj; simp [Addr.add]
  | 1, hj => simp at hj; subst hj; simp [Addr.add]
theorem own_formP {w : World} {base n size : Nat} {e : TypeId} {v : Value} {xs : List Value} (h : w.ownsRow base e size v n xs) : ∃ A c, v = .slice A n c := by
  rcases h.2 with ⟨rfl, rfl⟩ | ⟨g, cap, cur, rfl, _⟩
  · exact ⟨_, _, rfl⟩
  · exact ⟨_, _, rfl⟩
/-- The cells of points. -/
def ptV (P : List (Int × Int)) : List Value := P.flatMap fun p => [.int .i64 p.1, .int .i64 p.2]
theorem ptV_snoc (P : List (Int × Int)) (p : Int × Int) : ptV (P ++ [p]) = ptV P ++ [.int .i64 p.1, .int .i64 p.2] := by simp [ptV]
theorem ptV_more {Q Q' : List (Int × Int)} {p : Int × Int} {a b : Int} (h : Q' = Q ++ [p]) (h1 : p.1 = a) (h2 : p.2 = b) : ptV Q ++ [.int .i64 a, .int .i64 b] = ptV Q' := by
  subst h h1 h2
  exact (ptV_snoc Q p).symm
theorem ptV_more2 {Q Q' Q'' : List (Int × Int)} {p r : Int × Int} {a b c d : Int} (h : Q' = Q ++ [p]) (h' : Q'' = Q' ++ [r]) (h1 : p.1 = a) (h2 : p.2 = b) (h3 : r.1 = c) (h4 : r.2 = d) : ptV Q ++ [.int .i64 a, .int .i64 b, .int .i64 c, .int .i64 d] = ptV Q'' := by
  subst h h' h1 h2 h3 h4
  simp [ptV]
theorem ptV_get : ∀ (P : List (Int × Int)) (i : Nat), i < P.length → (ptV P)[i * 2]? = some (.int .i64 (P.getD i (0, 0)).1) ∧ (ptV P)[i * 2 + 1]? = some (.int .i64 (P.getD i (0, 0)).2)
  | [], i, h => absurd h (by simp)
  | p :: P, 0, _ => by simp [ptV]
  | p :: P, i + 1, h => by
    have h9 := ptV_get P i (by simpa using h)
    have e1 : (i + 1) * 2 = i * 2 + 1 + 1 := by omega
    simp only [ptV, List.flatMap_cons, List.cons_append, List.nil_append, e1, List.getElem?_cons_succ]
    simpa [ptV, List.getD] using h9
theorem pts_own {w : World} {base n c : Nat} {A : Option Addr} {P : List (Int × Int)} (h : w.ownsRow base 24 2 (.slice A n c) n (ptV P)) (hn : P.length = n) : Pts w w.heap.size A P := fun hp => by
  obtain ⟨g, cap, hv, _, hlt⟩ := h.form (by omega)
  have hA : A = some ⟨g, 0, none⟩ := by injection hv
  subst hA
  refine ⟨g, 0, rfl, hlt, fun i hi => ?_⟩
  obtain ⟨h1, h2⟩ := ptV_get P i hi
  have a1 := h.cells (g := g) rfl _ _ h1
  have a2 := h.cells (g := g) rfl _ _ h2
  rw [Addr.add_lit] at a1 a2
  exact ⟨a1, by rw [Nat.add_assoc]; exact a2⟩
/-- A list so far, with a point put in or not yet. -/
def putQ (P : List (Int × Int)) (p : Int × Int) (k i : Nat) (d : Bool) : List (Int × Int) := if d then (P.take k).take i ++ p :: (P.take k).drop i else P.take k
def putN (k : Nat) (d : Bool) : Nat := if d then k + 1 else k
theorem putQ_len {P : List (Int × Int)} {p : Int × Int} {k i : Nat} {d : Bool} (hk : k ≤ P.length) (hi : i ≤ k) : (putQ P p k i d).length = putN k d := by
  unfold putQ putN
  cases d
  · simp; omega
  · simp; omega
theorem putQ_more {P : List (Int × Int)} {p : Int × Int} {k i : Nat} {d : Bool} (hk : k < P.length) (hi : i ≤ k) : putQ P p (k + 1) i d = putQ P p k i d ++ [P.getD k (0, 0)] := by
  unfold putQ
  have e : P.take (k + 1) = P.take k ++ [P.getD k (0, 0)] := by
    rw [List.take_succ_eq_append_getElem hk]
    simp [List.getD, List.getElem?_eq_getElem hk]
  cases d
  · simpa using e
  · simp only [if_true]
    rw [e, List.take_append_of_le_length (by simp; omega), List.drop_append_of_le_length (by simp; omega)]
    simp
theorem putQ_now {P : List (Int × Int)} {p : Int × Int} {k i : Nat} (hk : k ≤ P.length) : putQ P p k k true = putQ P p k i false ++ [p] := by
  unfold putQ
  simp only [if_true, Bool.false_eq_true, if_false]
  rw [List.take_of_length_le (by simp; omega), List.drop_of_length_le (by simp; omega)]
def PutPost (w : World) (P : List (Int × Int)) (p : Int × Int) (e : Ending) (w' : World) : Prop :=
  ∃ A c i, i ≤ P.length ∧ e = .returned (.slice A (P.length + 1) c) ∧ Pts w' w'.heap.size A (P.take i ++ p :: P.drop i) ∧ Below w.heap.size w w'
set_option maxHeartbeats 8000000 in
theorem put_pt (A : Option Addr) (cp : Nat) (P : List (Int × Int)) (x y : Int) (w : World) (h : Pts w w.heap.size A P) (hn : P.length ≤ 100000) :
    Calls Try.prog 27 #[.slice A P.length cp, .agg #[.int .i64 x, .int .i64 y]] w (PutPost w P (x, y)) := by
  obtain ⟨i0, hi, hz0, hz1, hz2⟩ := info_parts (show (Try.prog.info? 24).map (fun i => (i.zero, i.size, i.bytes)) = some (some (.agg #[.int .i64 0, .int .i64 0]), 2, 16) by kernel_rfl)
  obtain ⟨n, hnn⟩ : ∃ n, P.length = n := ⟨_, rfl⟩
  have HPP := Lib.hid (show ∀ (A' : Option Addr) (c i : Nat) (w' : World), i ≤ n → Pts w' w'.heap.size A' (P.take i ++ (x, y) :: P.drop i) → Below w.heap.size w w' → PutPost w P (x, y) (.returned (.slice A' ((n + 1 : Nat) : Int).toNat c)) w' from fun A' c i w' h1 h2 h3 => ⟨A', c, i, by omega, by rw [hnn]; rfl, h2, h3⟩)
  rw [hnn] at hn ⊢
  have HN := Lib.hid hnn
  have H := Lib.hid h
  have PC := Lib.hid pcode_any
  have hp0 := pcode_bd x y
  clear h hnn
  go_enter Try.func27, Try.ntmps27
  go_wp2
  go_loopw [5, 6, 7] (fun v u i wr => ∃ (k i' : Nat) (d : Bool) (A' : Option Addr) (c' : Nat), k ≤ n ∧ i' ≤ k ∧ v = .slice A' (putN k d) c' ∧ u = .bool d ∧ i = .int .i64 k ∧ Hid (wr.ownsRow (w.heap.size + 1) 24 2 (.slice A' (putN k d) c') (putN k d) (ptV (putQ P (x, y) k i' d))) ∧ Below (w.heap.size + 1) (w.alloc (Obj.cells #[.int .i64 x, .int .i64 y] 24)) wr ∧ w.heap.size + 1 ≤ wr.heap.size) (fun _ _ i _ => n - (intOf i).toNat)
  case atStart => exact ⟨0, 0, false, none, 0, by omega, by omega, rfl, rfl, rfl, World.ownsRow_nil _ _ _ _, Below.refl _ _, by simp⟩
  case round =>
    obtain ⟨k, i', d, A', c', hk, hi', rfl, rfl, rfl, hown, hb, hsz⟩ := hrel
    obtain ⟨X, rfl⟩ : ∃ Z : Later (w.heap.size + 1) (w.alloc (Obj.cells #[.int .i64 x, .int .i64 y] 24)), wr = Z.w := ⟨⟨wr, hb⟩, rfl⟩
    clear hb
    by_cases hlt : k < n
    · obtain ⟨g, o, hA, hbl, hc⟩ := H.out (by rw [HN.out]; omega)
      subst hA
      obtain ⟨a0, a1⟩ := hc k (by rw [HN.out]; exact hlt)
      have hmore := Lib.hid (fun (d : Bool) (i : Nat) (h : i ≤ k) => putQ_more (P := P) (p := (x, y)) (d := d) (show k < P.length by rw [HN.out]; exact hlt) h)
      have hnow := Lib.hid (putQ_now (P := P) (p := (x, y)) (k := k) (i := i') (by rw [HN.out]; omega))
      obtain ⟨px, hpx⟩ : ∃ z, (P.getD k (0, 0)).1 = z := ⟨_, rfl⟩
      obtain ⟨py, hpy⟩ : ∃ z, (P.getD k (0, 0)).2 = z := ⟨_, rfl⟩
      rw [hpx] at a0
      rw [hpy] at a1
      have HXY := Lib.hid (show (P.getD k (0, 0)).1 = px ∧ (P.getD k (0, 0)).2 = py from ⟨hpx, hpy⟩)
      have hk0 := pcode_bd px py
      clear hc hpx hpy
      have hi0 : (0 : Int) ≤ (k : Int) := Int.natCast_nonneg _
      have hi1 : (k : Int) < (n : Int) := by omega
      cases d with
      | true =>
        have e1 : putN k true = k + 1 := rfl
        rw [e1] at hown ⊢
        go_wp2_with fail
        (refine wp_region_later (X.w.heap.size) (by kernel_rfl) (by kernel_rfl) (by go_size) ?_; (repeat (go_big_quiet_step ((first | (go_at_call 43; exact Later.call _ (Nat.le_trans (by go_size) (Later.is _).size) (PC.out _ _ _)))))); refine wpQuiet_nil ?_; intro Xq hlq hmq)
        have HOQ := Lib.hid (own_keep hown.out Xq.is)
        go_wp2_with (at_builtin; refine wpList_append_own_at _ rfl _ _ 22 rfl (w.heap.size + 1) 24 i0 (.agg #[.int .i64 0, .int .i64 0]) 2 16 Try.underlying22 hi hz0 hz1 hz2 rfl (by decide) _ _ _ rfl (HOQ.out.alloc _) ⟨Xq.w.heap.size, 0, none⟩ 1 1 [_, _] rfl rfl (cell_two_new _ _ _ _) (fun x hx => by simp at hx; rcases hx with rfl | rfl <;> rfl) (by unfold maxLen; omega) (by omega) (by go_size) ?_)
        intro v1 w1 hown1 hgrow1 _ _
        obtain ⟨A1, k1, rfl⟩ := own_formP hown1
        have hb1 : Below (w.heap.size + 1) (w.alloc (Obj.cells #[.int .i64 x, .int .i64 y] 24)) w1 := Below.grown (Below.alloc (show Below (w.heap.size + 1) (w.alloc (Obj.cells #[.int .i64 x, .int .i64 y] 24)) Xq.w by repeat' (first | (with_reducible exact Below.refl _ _) | (with_reducible assumption) | (with_reducible refine Later.step ?_ ?_ _) | (with_reducible refine Below.alloc ?_ ?_ _) | (with_reducible refine Below.drew ?_) | (with_reducible refine bel_drewN ?_ _) | (with_reducible refine bel_grown ?_ (by assumption) ?_ ?_) | (with_reducible refine Below.setCell ?_ ?_ _) | go_size)) (by omega) _) hgrow1 (by go_size) (fun k hk => (HOQ.out.lt k hk).1)
        have hs1 := hgrow1.size
        rw [World.size_alloc] at hs1
        have HO1 := Lib.hid hown1
        obtain ⟨Y1, rfl⟩ : ∃ Z : Later (w.heap.size + 1) (w.alloc (Obj.cells #[.int .i64 x, .int .i64 y] 24)), w1 = Z.w := ⟨⟨w1, hb1⟩, rfl⟩
        clear hb1 hown1 hgrow1
        go_wp2
        go_roundw
        case rel =>
          have h9 := HO1.out
          rw [ptV_more (hmore.out true i' hi') HXY.out.1 HXY.out.2] at h9
          first
            | exact ⟨k + 1, i', true, A1, k1, by omega, by omega, rfl, rfl, by go_num, h9, by repeat' (first | (with_reducible exact Below.refl _ _) | (with_reducible assumption) | (with_reducible refine Later.step ?_ ?_ _) | (with_reducible refine Below.alloc ?_ ?_ _) | (with_reducible refine Below.drew ?_) | (with_reducible refine bel_drewN ?_ _) | (with_reducible refine bel_grown ?_ (by assumption) ?_ ?_) | (with_reducible refine Below.setCell ?_ ?_ _) | go_size), by omega⟩
            | ((repeat apply Exists.intro); exact ⟨⟨k + 1, i', true, A1, k1, by omega, by omega, rfl, rfl, by go_num, h9, by repeat' (first | (with_reducible exact Below.refl _ _) | (with_reducible assumption) | (with_reducible refine Later.step ?_ ?_ _) | (with_reducible refine Below.alloc ?_ ?_ _) | (with_reducible refine Below.drew ?_) | (with_reducible refine bel_drewN ?_ _) | (with_reducible refine bel_grown ?_ (by assumption) ?_ ?_) | (with_reducible refine Below.setCell ?_ ?_ _) | go_size), by omega⟩, rfl⟩)
        case measure => simp [intOf]; omega
      | false =>
        have e1 : putN k false = k := rfl
        rw [e1] at hown ⊢
        by_cases hz : pcode x y < pcode px py
        · go_wp2_with fail
          (refine wp_region_later (X.w.heap.size) (by kernel_rfl) (by kernel_rfl) (by go_size) ?_; (repeat (go_big_quiet_step ((first | (go_at_call 43; exact Later.call _ (Nat.le_trans (by go_size) (Later.is _).size) (PC.out _ _ _)))))); refine wpQuiet_nil ?_; intro Xq hlq hmq)
          have HOQ := Lib.hid (own_keep hown.out Xq.is)
          go_wp2_with (at_builtin; refine wpList_append_own_at _ rfl _ _ 22 rfl (w.heap.size + 1) 24 i0 (.agg #[.int .i64 0, .int .i64 0]) 2 16 Try.underlying22 hi hz0 hz1 hz2 rfl (by decide) _ _ _ rfl (HOQ.out.alloc _) ⟨Xq.w.heap.size, 0, none⟩ 1 1 [_, _] rfl rfl (cell_two_new _ _ _ _) (fun x hx => by simp at hx; rcases hx with rfl | rfl <;> rfl) (by unfold maxLen; omega) (by omega) (by go_size) ?_)
          intro v1 w1 hown1 hgrow1 _ _
          obtain ⟨A1, k1, rfl⟩ := own_formP hown1
          have hb1 : Below (w.heap.size + 1) (w.alloc (Obj.cells #[.int .i64 x, .int .i64 y] 24)) w1 := Below.grown (Below.alloc (show Below (w.heap.size + 1) (w.alloc (Obj.cells #[.int .i64 x, .int .i64 y] 24)) Xq.w by repeat' (first | (with_reducible exact Below.refl _ _) | (with_reducible assumption) | (with_reducible refine Later.step ?_ ?_ _) | (with_reducible refine Below.alloc ?_ ?_ _) | (with_reducible refine Below.drew ?_) | (with_reducible refine bel_drewN ?_ _) | (with_reducible refine bel_grown ?_ (by assumption) ?_ ?_) | (with_reducible refine Below.setCell ?_ ?_ _) | go_size)) (by omega) _) hgrow1 (by go_size) (fun k hk => (HOQ.out.lt k hk).1)
          have hs1 := hgrow1.size
          rw [World.size_alloc] at hs1
          have HO1 := Lib.hid hown1
          obtain ⟨Y1, rfl⟩ : ∃ Z : Later (w.heap.size + 1) (w.alloc (Obj.cells #[.int .i64 x, .int .i64 y] 24)), w1 = Z.w := ⟨⟨w1, hb1⟩, rfl⟩
          clear hb1 hown1 hgrow1
          go_wp2_with (at_builtin; refine wpList_append_own_at _ rfl _ _ 22 rfl (w.heap.size + 1) 24 i0 (.agg #[.int .i64 0, .int .i64 0]) 2 16 Try.underlying22 hi hz0 hz1 hz2 rfl (by decide) _ _ _ rfl (HO1.out.alloc _) ⟨Y1.w.heap.size, 0, none⟩ 1 1 [_, _] rfl rfl (cell_two_new _ _ _ _) (fun x hx => by simp at hx; rcases hx with rfl | rfl <;> rfl) (by unfold maxLen; omega) (by omega) (by go_size) ?_)
          intro v2 w2 hown2 hgrow2 _ _
          obtain ⟨A2, k2, rfl⟩ := own_formP hown2
          have hb2 : Below (w.heap.size + 1) (w.alloc (Obj.cells #[.int .i64 x, .int .i64 y] 24)) w2 := Below.grown (Below.alloc (show Below (w.heap.size + 1) (w.alloc (Obj.cells #[.int .i64 x, .int .i64 y] 24)) Y1.w by repeat' (first | (with_reducible exact Below.refl _ _) | (with_reducible assumption) | (with_reducible refine Later.step ?_ ?_ _) | (with_reducible refine Below.alloc ?_ ?_ _) | (with_reducible refine Below.drew ?_) | (with_reducible refine bel_drewN ?_ _) | (with_reducible refine bel_grown ?_ (by assumption) ?_ ?_) | (with_reducible refine Below.setCell ?_ ?_ _) | go_size)) (by omega) _) hgrow2 (by go_size) (fun k hk => (HO1.out.lt k hk).1)
          have hs2 := hgrow2.size
          rw [World.size_alloc] at hs2
          have HO2 := Lib.hid hown2
          obtain ⟨Y2, rfl⟩ : ∃ Z : Later (w.heap.size + 1) (w.alloc (Obj.cells #[.int .i64 x, .int .i64 y] 24)), w2 = Z.w := ⟨⟨w2, hb2⟩, rfl⟩
          clear hb2 hown2 hgrow2
          go_wp2
          go_roundw
          case rel =>
            have h9 := HO2.out
            first
              | rw [ptV_more2 hnow.out (hmore.out true k (Nat.le_refl _)) rfl rfl HXY.out.1 HXY.out.2] at h9
              | rw [ptV_more hnow.out rfl rfl, ptV_more (hmore.out true k (Nat.le_refl _)) HXY.out.1 HXY.out.2] at h9
            first
              | exact ⟨k + 1, k, true, A2, k2, by omega, by omega, rfl, rfl, by go_num, h9, by repeat' (first | (with_reducible exact Below.refl _ _) | (with_reducible assumption) | (with_reducible refine Later.step ?_ ?_ _) | (with_reducible refine Below.alloc ?_ ?_ _) | (with_reducible refine Below.drew ?_) | (with_reducible refine bel_drewN ?_ _) | (with_reducible refine bel_grown ?_ (by assumption) ?_ ?_) | (with_reducible refine Below.setCell ?_ ?_ _) | go_size), by omega⟩
              | ((repeat apply Exists.intro); exact ⟨⟨k + 1, k, true, A2, k2, by omega, by omega, rfl, rfl, by go_num, h9, by repeat' (first | (with_reducible exact Below.refl _ _) | (with_reducible assumption) | (with_reducible refine Later.step ?_ ?_ _) | (with_reducible refine Below.alloc ?_ ?_ _) | (with_reducible refine Below.drew ?_) | (with_reducible refine bel_drewN ?_ _) | (with_reducible refine bel_grown ?_ (by assumption) ?_ ?_) | (with_reducible refine Below.setCell ?_ ?_ _) | go_size), by omega⟩, rfl⟩)
          case measure => simp [intOf]; omega
        · go_wp2_with fail
          (refine wp_region_later (X.w.heap.size) (by kernel_rfl) (by kernel_rfl) (by go_size) ?_; (repeat (go_big_quiet_step ((first | (go_at_call 43; exact Later.call _ (Nat.le_trans (by go_size) (Later.is _).size) (PC.out _ _ _)))))); refine wpQuiet_nil ?_; intro Xq hlq hmq)
          have HOQ := Lib.hid (own_keep hown.out Xq.is)
          go_wp2_with (at_builtin; refine wpList_append_own_at _ rfl _ _ 22 rfl (w.heap.size + 1) 24 i0 (.agg #[.int .i64 0, .int .i64 0]) 2 16 Try.underlying22 hi hz0 hz1 hz2 rfl (by decide) _ _ _ rfl (HOQ.out.alloc _) ⟨Xq.w.heap.size, 0, none⟩ 1 1 [_, _] rfl rfl (cell_two_new _ _ _ _) (fun x hx => by simp at hx; rcases hx with rfl | rfl <;> rfl) (by unfold maxLen; omega) (by omega) (by go_size) ?_)
          intro v1 w1 hown1 hgrow1 _ _
          obtain ⟨A1, k1, rfl⟩ := own_formP hown1
          have hb1 : Below (w.heap.size + 1) (w.alloc (Obj.cells #[.int .i64 x, .int .i64 y] 24)) w1 := Below.grown (Below.alloc (show Below (w.heap.size + 1) (w.alloc (Obj.cells #[.int .i64 x, .int .i64 y] 24)) Xq.w by repeat' (first | (with_reducible exact Below.refl _ _) | (with_reducible assumption) | (with_reducible refine Later.step ?_ ?_ _) | (with_reducible refine Below.alloc ?_ ?_ _) | (with_reducible refine Below.drew ?_) | (with_reducible refine bel_drewN ?_ _) | (with_reducible refine bel_grown ?_ (by assumption) ?_ ?_) | (with_reducible refine Below.setCell ?_ ?_ _) | go_size)) (by omega) _) hgrow1 (by go_size) (fun k hk => (HOQ.out.lt k hk).1)
          have hs1 := hgrow1.size
          rw [World.size_alloc] at hs1
          have HO1 := Lib.hid hown1
          obtain ⟨Y1, rfl⟩ : ∃ Z : Later (w.heap.size + 1) (w.alloc (Obj.cells #[.int .i64 x, .int .i64 y] 24)), w1 = Z.w := ⟨⟨w1, hb1⟩, rfl⟩
          clear hb1 hown1 hgrow1
          go_wp2
          go_roundw
          case rel =>
            have h9 := HO1.out
            rw [ptV_more (hmore.out false i' hi') HXY.out.1 HXY.out.2] at h9
            first
              | exact ⟨k + 1, i', false, A1, k1, by omega, by omega, rfl, rfl, by go_num, h9, by repeat' (first | (with_reducible exact Below.refl _ _) | (with_reducible assumption) | (with_reducible refine Later.step ?_ ?_ _) | (with_reducible refine Below.alloc ?_ ?_ _) | (with_reducible refine Below.drew ?_) | (with_reducible refine bel_drewN ?_ _) | (with_reducible refine bel_grown ?_ (by assumption) ?_ ?_) | (with_reducible refine Below.setCell ?_ ?_ _) | go_size), by omega⟩
              | ((repeat apply Exists.intro); exact ⟨⟨k + 1, i', false, A1, k1, by omega, by omega, rfl, rfl, by go_num, h9, by repeat' (first | (with_reducible exact Below.refl _ _) | (with_reducible assumption) | (with_reducible refine Later.step ?_ ?_ _) | (with_reducible refine Below.alloc ?_ ?_ _) | (with_reducible refine Below.drew ?_) | (with_reducible refine bel_drewN ?_ _) | (with_reducible refine bel_grown ?_ (by assumption) ?_ ?_) | (with_reducible refine Below.setCell ?_ ?_ _) | go_size), by omega⟩, rfl⟩)
          case measure => simp [intOf]; omega
    · have hkn := Lib.hid (show k = n by omega)
      have htk : P.take k = P := List.take_of_length_le (by rw [HN.out]; omega)
      have HTK := Lib.hid htk
      clear htk
      cases d with
      | true =>
        have e1 : putN k true = k + 1 := rfl
        rw [e1] at hown ⊢
        go_wp2
        go_ret
        have h9 := hown.out
        have hl := putQ_len (P := P) (p := (x, y)) (k := k) (i := i') (d := true) (by rw [HN.out]; omega) hi'
        have hp := pts_own h9 hl
        unfold putQ at hp
        rw [if_pos rfl, HTK.out] at hp
        rw [hkn.out]
        exact HPP.out A' c' i' _ (by omega) hp (by repeat' (first | (with_reducible exact Below.refl _ _) | (with_reducible assumption) | (with_reducible refine Later.step ?_ ?_ _) | (with_reducible refine Below.alloc ?_ ?_ _) | (with_reducible refine Below.drew ?_) | (with_reducible refine bel_drewN ?_ _) | (with_reducible refine bel_grown ?_ (by assumption) ?_ ?_) | (with_reducible refine Below.setCell ?_ ?_ _) | go_size))
      | false =>
        have e1 : putN k false = k := rfl
        rw [e1] at hown ⊢
        have hnow := Lib.hid (putQ_now (P := P) (p := (x, y)) (k := k) (i := i') (by rw [HN.out]; omega))
        have HOQ := Lib.hid hown.out
        go_wp2_with (at_builtin; refine wpList_append_own_at _ rfl _ _ 22 rfl (w.heap.size + 1) 24 i0 (.agg #[.int .i64 0, .int .i64 0]) 2 16 Try.underlying22 hi hz0 hz1 hz2 rfl (by decide) _ _ _ rfl (HOQ.out.alloc _) ⟨X.w.heap.size, 0, none⟩ 1 1 [_, _] rfl rfl (cell_two_new _ _ _ _) (fun x hx => by simp at hx; rcases hx with rfl | rfl <;> rfl) (by unfold maxLen; omega) (by omega) (by go_size) ?_)
        intro v1 w1 hown1 hgrow1 _ _
        obtain ⟨A1, k1, rfl⟩ := own_formP hown1
        have hb1 : Below (w.heap.size + 1) (w.alloc (Obj.cells #[.int .i64 x, .int .i64 y] 24)) w1 := Below.grown (Below.alloc (show Below (w.heap.size + 1) (w.alloc (Obj.cells #[.int .i64 x, .int .i64 y] 24)) X.w by repeat' (first | (with_reducible exact Below.refl _ _) | (with_reducible assumption) | (with_reducible refine Later.step ?_ ?_ _) | (with_reducible refine Below.alloc ?_ ?_ _) | (with_reducible refine Below.drew ?_) | (with_reducible refine bel_drewN ?_ _) | (with_reducible refine bel_grown ?_ (by assumption) ?_ ?_) | (with_reducible refine Below.setCell ?_ ?_ _) | go_size)) (by omega) _) hgrow1 (by go_size) (fun k hk => (HOQ.out.lt k hk).1)
        have hs1 := hgrow1.size
        rw [World.size_alloc] at hs1
        have HO1 := Lib.hid hown1
        obtain ⟨Y1, rfl⟩ : ∃ Z : Later (w.heap.size + 1) (w.alloc (Obj.cells #[.int .i64 x, .int .i64 y] 24)), w1 = Z.w := ⟨⟨w1, hb1⟩, rfl⟩
        clear hb1 hown1 hgrow1
        go_wp2
        go_ret
        have h9 := HO1.out
        rw [ptV_more hnow.out rfl rfl] at h9
        have hl := putQ_len (P := P) (p := (x, y)) (k := k) (i := k) (d := true) (by rw [HN.out]; omega) (Nat.le_refl _)
        have hp := pts_own h9 hl
        unfold putQ at hp
        rw [if_pos rfl, HTK.out] at hp
        rw [hkn.out] at hp ⊢
        exact HPP.out A1 k1 n _ (Nat.le_refl _) hp (by repeat' (first | (with_reducible exact Below.refl _ _) | (with_reducible assumption) | (with_reducible refine Later.step ?_ ?_ _) | (with_reducible refine Below.alloc ?_ ?_ _) | (with_reducible refine Below.drew ?_) | (with_reducible refine bel_drewN ?_ _) | (with_reducible refine bel_grown ?_ (by assumption) ?_ ?_) | (with_reducible refine Below.setCell ?_ ?_ _) | go_size))
end Go.Proofs.Ythoanoaigfcchaa
