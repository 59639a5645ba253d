/- A buffer of bytes in memory; its functions walked. No condition beyond what the memory holds. -/
import Derived.Test.YthcecinhlhgohaaApp
import Derived.Test.YthcecinhlhgohaaTail
import Derived.Test.YthcecinhlhgohaaNumB
import Derived.Test.YthcecinhlhgohaaNumC
namespace Go.Proofs.Ythcecinhlhgohaa
open Go.RowKit
set_option linter.unusedSimpArgs false
set_option linter.unusedVariables false

/-- A buffer at block q: its room, the bytes that wait, what is to be passed over. -/
structure Buf (w : World) (q room : Nat) (l : List Nat) (over : Nat) : Prop where
  lt : q < w.heap.size
  c0 : w.cell? ⟨q, 0, none⟩ = some (.int .i64 room)
  row : ∃ A c, w.cell? ⟨q, 1, none⟩ = some (.slice A l.length c) ∧ w.ownsRow (q + 1) 5 1 (.slice A l.length c) l.length (rowV .u8 l.length (atI l))
  c2 : w.cell? ⟨q, 2, none⟩ = some (.int .i64 over)
  z1 : w.frozen? ⟨q, 1, none⟩ = false
  z2 : w.frozen? ⟨q, 2, none⟩ = false
theorem Buf.keep {w w' : World} {q room over : Nat} {l : List Nat} (h : Buf w q room l over) (hb : Below w.heap.size w w') : Buf w' q room l over := by
  obtain ⟨lt, c0, ⟨A, c, c1, own⟩, c2, z1, z2⟩ := h
  exact ⟨Nat.lt_of_lt_of_le lt hb.size, (hb.cell (p := ⟨q, 0, none⟩) lt).trans c0, ⟨A, c, (hb.cell (p := ⟨q, 1, none⟩) lt).trans c1, own_keep own hb⟩, (hb.cell (p := ⟨q, 2, none⟩) lt).trans c2, (hb.frozen (p := ⟨q, 1, none⟩) lt).trans z1, (hb.frozen (p := ⟨q, 2, none⟩) lt).trans z2⟩
/-- The number of the first two bytes. -/
def lenI (l : List Nat) : Nat := 256 * l.getD 0 0 + l.getD 1 0
theorem small_at {l : List Nat} (h : Small l) (j : Nat) : l.getD j 0 < 256 := by
  by_cases hj : j < l.length
  · exact h _ (by simp [List.getD, hj])
  · simp [List.getD, List.getElem?_eq_none (Nat.le_of_not_lt hj)]
theorem lenI_bd {l : List Nat} (h : Small l) : lenI l < 65536 := by
  have := small_at h 0
  have := small_at h 1
  unfold lenI; omega
set_option maxRecDepth 2000 in
theorem getF_two (l : List Nat) : getF (atI l) 2 = ((lenI l : Nat) : Int) := by
  simp only [getF, atI, lenI]; push_cast; omega
theorem Small.take {l : List Nat} (h : Small l) (n : Nat) : Small (l.take n) := fun x hx => h x (List.mem_of_mem_take hx)
theorem Small.drop {l : List Nat} (h : Small l) (n : Nat) : Small (l.drop n) := fun x hx => h x (List.mem_of_mem_drop hx)
theorem Small.app {a b : List Nat} (h : Small a) (h' : Small b) : Small (a ++ b) := fun x hx => by
  rcases List.mem_append.1 hx with hx | hx
  · exact h x hx
  · exact h' x hx
theorem atI_bd {l : List Nat} (h : Small l) (j : Nat) : 0 ≤ atI l j ∧ atI l j ≤ 255 := ⟨atI_nonneg l j, atI_le h j⟩

theorem own_form {w : World} {base : Nat} {e : TypeId} {size n : Nat} {v : Value} {xs : List Value} (h : w.ownsRow base e size v n xs) : ∃ A c, v = .slice A n c := by
  rcases h.2 with ⟨rfl, rfl⟩ | ⟨g, cap, cur, rfl, _⟩
  · exact ⟨_, _, rfl⟩
  · exact ⟨_, _, rfl⟩
theorem grown_of_below {w w' : World} (h : Below w.heap.size w w') (r : Option Nat) : w.grownBy w' r := ⟨h.os, h.tape, h.output, h.size, fun k hk _ => h.block k hk⟩
theorem grown_trans {w w1 w2 : World} {r : Option Nat} (h : w.grownBy w1 r) (h' : w1.grownBy w2 r) : w.grownBy w2 r :=
  ⟨h'.os.trans h.os, h'.tape.trans h.tape, h'.output.trans h.output, Nat.le_trans h.size h'.size, fun k hk hr => (h'.block k (Nat.lt_of_lt_of_le hk h.size) hr).trans (h.block k hk hr)⟩
theorem grown_set (w : World) (p : Addr) (u : Value) : w.grownBy (w.setCell p u) (some p.block) :=
  ⟨rfl, rfl, rfl, by rw [World.size_setCell]; exact Nat.le_refl _, fun k hk hr => Below.heap_setCell w p u k (fun e => hr (by rw [e]))⟩
set_option maxHeartbeats 2000000 in
theorem length_any (A : Option Addr) (c : Nat) (l : List Nat) (w : World) (ha : Reads .u8 w w.heap.size A 2 (atI l)) (hf : Small l) :
    Calls Try.prog 25 #[.slice A 2 c] w fun e w' => e = .returned (.int .i64 (lenI l : Nat)) ∧ Below w.heap.size w w' := by
  have p1 := get_any A 2 c (atI l) w ha (fun j => atI_bd hf j) (by omega) (by omega) (by omega)
  rw [getF_two] at p1
  have hb := lenI_bd hf
  have P1 := Lib.hid p1
  clear p1 ha hf
  generalize lenI l = v at *
  go_enter Try.func25, Try.ntmps25
  go_wp2_with (first
    | (go_at_call 28; with_reducible refine P1.out.mono ?_; rintro e w' ⟨rfl, hb⟩; obtain ⟨X1, rfl, hl1, hm1⟩ := later (w.heap.size) hb (by first | exact Nat.le_refl _ | go_size); clear hb; (try simp only [World.size_alloc, World.size_setCell, World.size_drew] at hm1)))
  go_ret
  exact ⟨rfl, by repeat' (first | (with_reducible exact Below.refl _ _) | (with_reducible assumption) | (with_reducible refine Later.step ?_ ?_ _) | (with_reducible refine Below.alloc ?_ ?_ _) | (with_reducible refine Below.drew ?_) | (with_reducible refine bel_drewN ?_ _) | (with_reducible refine bel_grown ?_ (by assumption) ?_ ?_) | (with_reducible refine Below.setCell ?_ ?_ _) | go_size)⟩
set_option maxHeartbeats 4000000 in
theorem take_any (q room over n : Nat) (l : List Nat) (w : World) (h : Buf w q room l over) (hn : n ≤ l.length) (hl : l.length ≤ 1000000) :
    Calls Try.prog 26 #[.pointer (some ⟨q, 0, none⟩), .int .i64 n] w fun e w' => (∃ A c, e = .returned (.slice A n c) ∧ w'.ownsRow (q + 1) 5 1 (.slice A n c) n (rowV .u8 n (atI l)))
      ∧ Buf w' q room (l.drop n) over ∧ Below q w w' ∧ w.heap.size ≤ w'.heap.size ∧ w.grownBy w' (some q) := by
  obtain ⟨lt, c0, ⟨A, c, c1, own⟩, c2, z1, z2⟩ := h
  obtain ⟨i0, hi, hz0, hz1, hz2⟩ := info_parts Try.info5
  have hcap := own_cap own
  have hr := Reads.own own
  have hcn : n ≤ c := by omega
  go_enter Try.func26, Try.ntmps26
  go_wp2_with (at_builtin; refine wpList_app _ rfl _ _ 22 rfl (q + 1) 5 i0 (.int .u8 0) 1 Try.underlying22 hi hz0 hz1 hz2 rfl _ 0 [] rfl (World.ownsRow_nil _ _ _ _) .u8 w.heap.size A n n (atI l) rfl ?r1 ?r2 ?r3 ?r4 ?_)
  case r1 => exact hr.first hn
  case r2 => omega
  case r3 => omega
  case r4 => omega
  intro v1 w1 hown1 hgrow1
  obtain ⟨A1, k1, rfl⟩ := own_form hown1
  have hb1 : Below w.heap.size w w1 := (Below.refl _ _).grown hgrow1 (Nat.le_refl _) (fun _ h => by cases h)
  have hs1 := hb1.size
  obtain ⟨X, rfl⟩ : ∃ X : Later w.heap.size w, w1 = X.w := ⟨⟨w1, hb1⟩, rfl⟩
  have HO1 := Lib.hid hown1
  have HR := Lib.hid hr
  have HB1 := Lib.hid hb1
  clear hown1 hgrow1 own hb1 hr
  have hcase : c = n ∨ ¬ c = n := by omega
  rcases hcase with hcc | hcc
  · go_wp2_with (at_builtin; refine wpList_app _ rfl _ _ 22 rfl (q + 1) 5 i0 (.int .u8 0) 1 Try.underlying22 hi hz0 hz1 hz2 rfl _ 0 [] rfl (World.ownsRow_nil _ _ _ _) .u8 w.heap.size _ _ _ (fun j => atI l (n + j)) rfl ?r1 ?r2 ?r3 ?r4 ?_)
    case r1 => exact fun hlt => absurd hlt (by omega)
    case r2 => omega
    case r3 => omega
    case r4 => omega
    intro v2 w2 hown2 hgrow2
    obtain ⟨A2, k2, rfl⟩ := own_form hown2
    have hb2 : Below X.w.heap.size X.w w2 := (Below.refl _ _).grown hgrow2 (Nat.le_refl _) (fun _ h => by cases h)
    have hs2 := hb2.size
    obtain ⟨Y, rfl⟩ : ∃ Y : Later X.w.heap.size X.w, w2 = Y.w := ⟨⟨w2, hb2⟩, rfl⟩
    have HO2 := Lib.hid hown2
    have HB2 := Lib.hid hb2
    clear hown2 hgrow2 hb2
    go_wp2
    go_ret
    refine ⟨⟨_, _, rfl, ?_⟩, ⟨by go_size, by go_simp, ⟨A2, k2, ?_, ?_⟩, by go_simp, by go_simp, by go_simp⟩, by repeat' (first | (with_reducible exact Below.refl _ _) | (with_reducible assumption) | (with_reducible refine Later.step ?_ ?_ _) | (with_reducible refine Below.alloc ?_ ?_ _) | (with_reducible refine Below.drew ?_) | (with_reducible refine bel_drewN ?_ _) | (with_reducible refine bel_grown ?_ (by assumption) ?_ ?_) | (with_reducible refine Below.setCell ?_ ?_ _) | go_size), by go_size, grown_trans (grown_trans (grown_of_below X.is _) (grown_of_below Y.is _)) (grown_set _ ⟨q, 1, none⟩ _)⟩
    · have := own_set (p := ⟨q, 1, none⟩) (own_keep HO1.out HB2.out) (show q < q + 1 by omega) (.slice A2 (l.length - n) k2)
      simpa using this
    · rw [List.length_drop]; go_simp
    · have := own_set (p := ⟨q, 1, none⟩) HO2.out (show q < q + 1 by omega) (.slice A2 (l.length - n) k2)
      rw [rowV_drop] at this
      rw [List.length_drop] at this ⊢
      simpa using this
  · go_wp2_with (at_builtin; refine wpList_app _ rfl _ _ 22 rfl (q + 1) 5 i0 (.int .u8 0) 1 Try.underlying22 hi hz0 hz1 hz2 rfl _ 0 [] rfl (World.ownsRow_nil _ _ _ _) .u8 w.heap.size _ (l.length - n) (c - n) (fun j => atI l (n + j)) rfl ?r1 ?r2 ?r3 ?r4 ?_)
    case r1 => exact ((HR.out.keep X.is).from_ (fun b o e hlt => by subst e; first | (exfalso; omega) | rfl | simp [Addr.add_lit] | skip))
    case r2 => omega
    case r3 => omega
    case r4 => omega
    intro v2 w2 hown2 hgrow2
    obtain ⟨A2, k2, rfl⟩ := own_form hown2
    have hb2 : Below X.w.heap.size X.w w2 := (Below.refl _ _).grown hgrow2 (Nat.le_refl _) (fun _ h => by cases h)
    have hs2 := hb2.size
    obtain ⟨Y, rfl⟩ : ∃ Y : Later X.w.heap.size X.w, w2 = Y.w := ⟨⟨w2, hb2⟩, rfl⟩
    have HO2 := Lib.hid hown2
    have HB2 := Lib.hid hb2
    clear hown2 hgrow2 hb2
    go_wp2
    go_ret
    refine ⟨⟨_, _, rfl, ?_⟩, ⟨by go_size, by go_simp, ⟨A2, k2, ?_, ?_⟩, by go_simp, by go_simp, by go_simp⟩, by repeat' (first | (with_reducible exact Below.refl _ _) | (with_reducible assumption) | (with_reducible refine Later.step ?_ ?_ _) | (with_reducible refine Below.alloc ?_ ?_ _) | (with_reducible refine Below.drew ?_) | (with_reducible refine bel_drewN ?_ _) | (with_reducible refine bel_grown ?_ (by assumption) ?_ ?_) | (with_reducible refine Below.setCell ?_ ?_ _) | go_size), by go_size, grown_trans (grown_trans (grown_of_below X.is _) (grown_of_below Y.is _)) (grown_set _ ⟨q, 1, none⟩ _)⟩
    · have := own_set (p := ⟨q, 1, none⟩) (own_keep HO1.out HB2.out) (show q < q + 1 by omega) (.slice A2 (l.length - n) k2)
      simpa using this
    · rw [List.length_drop]; go_simp
    · have := own_set (p := ⟨q, 1, none⟩) HO2.out (show q < q + 1 by omega) (.slice A2 (l.length - n) k2)
      rw [rowV_drop] at this
      rw [List.length_drop] at this ⊢
      simpa using this
end Go.Proofs.Ythcecinhlhgohaa
