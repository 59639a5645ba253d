/- The next frame is taken out of a buffer: what lies where, walked. No condition beyond what the memory holds. -/
import Derived.Test.YthcecinhlhgohaaFrP
namespace Go.Proofs.Ythcecinhlhgohaa
open Go.RowKit
set_option linter.unusedSimpArgs false
set_option linter.unusedVariables false
set_option maxRecDepth 2000

/-- What comes out is new, and the buffer's row is new and another one. -/
def Sep (w w' : World) (q : Nat) (e : Ending) : Prop :=
  (∀ b o n c, e = .returned (.slice (some ⟨b, o, none⟩) n c) → w.heap.size ≤ b) ∧
  ∀ g o n c, w'.cell? ⟨q, 1, none⟩ = some (.slice (some ⟨g, o, none⟩) n c) → w.heap.size ≤ g ∧ ∀ b o' n' c', e = .returned (.slice (some ⟨b, o', none⟩) n' c') → b ≠ g
theorem sep_take {w x y : World} {q n m k1 k2 : Nat} {t : TypeId} {A1 A2 : Option Addr} {xs ys : List Value} {f : World} (h1 : x.ownsRow w.heap.size t 1 (.slice A1 n k1) n xs) (h2 : y.ownsRow x.heap.size t 1 (.slice A2 m k2) m ys) (hs : w.heap.size ≤ x.heap.size) (hq : q < x.heap.size)
    (hc : f.cell? ⟨q, 1, none⟩ = some (.slice A2 m k2)) : Sep w f q (.returned (.slice A1 n k1)) := by
  have g1 : ∀ b o n' c', (Ending.returned (.slice A1 n k1)) = .returned (.slice (some ⟨b, o, none⟩) n' c') → w.heap.size ≤ b ∧ b < x.heap.size := fun b o n' c' e => by
    injection e with e
    injection e with e
    subst e
    exact h1.lt b rfl
  refine ⟨fun b o n c e => (g1 b o n c e).1, fun g o n c hg => ?_⟩
  rw [hc] at hg
  injection hg with hg
  injection hg with hg
  subst hg
  have := h2.lt g rfl
  exact ⟨by omega, fun b o' n' c' e => by have := (g1 b o' n' c' e).2; omega⟩
theorem Sep.mono {w x w' : World} {q : Nat} {e : Ending} (h : Sep x w' q e) (hs : w.heap.size ≤ x.heap.size) : Sep w w' q e :=
  ⟨fun b o n c he => Nat.le_trans hs (h.1 b o n c he), fun g o n c hg => ⟨Nat.le_trans hs (h.2 g o n c hg).1, (h.2 g o n c hg).2⟩⟩
theorem sep_none {w x w' : World} {q : Nat} {e : Ending} (h : Sep w x q e) (hc : w'.cell? ⟨q, 1, none⟩ = x.cell? ⟨q, 1, none⟩) : Sep w w' q (.returned (.slice none 0 0)) :=
  ⟨fun b o n c he => by (injection he with he; injection he with he; cases he), fun g o n c hg => ⟨(h.2 g o n c (hc ▸ hg)).1, fun b o' n' c' he => by (injection he with he; injection he with he; cases he)⟩⟩
def TakeSep (q room over n : Nat) (l : List Nat) (w : World) (e : Ending) (w' : World) : Prop :=
  (∃ A c, e = .returned (.slice A n c) ∧ w'.ownsRow (q + 1) 5 1 (.slice A n c) n (rowV .u8 n (atI l))) ∧ Buf w' q room (l.drop n) over ∧ Below q w w' ∧ w.heap.size ≤ w'.heap.size ∧ w.grownBy w' (some q) ∧ Sep w w' q e
/-- What Next leaves, and where. -/
def NextSep (q room over : Nat) (l : List Nat) (w : World) (e : Ending) (w' : World) : Prop :=
  ∃ A c, e = .returned (.tuple #[.slice A (nextB l).length c, .int .i64 (kindN l)]) ∧ w'.ownsRow (q + 1) 5 1 (.slice A (nextB l).length c) (nextB l).length (rowV .u8 (nextB l).length (atI (nextB l)))
    ∧ Buf w' q room (nextL l) (nextO l over) ∧ Below q w w' ∧ w.heap.size ≤ w'.heap.size ∧ w.grownBy w' (some q) ∧ (kindN l ≠ 0 → Sep w w' q (.returned (.slice A (nextB l).length c))) ∧ (kindN l = 0 → Below w.heap.size w w')
set_option maxHeartbeats 4000000 in
theorem take_sep (q room over n : Nat) (l : List Nat) (w : World) (h : Buf w q room l over) (hn : n ≤ l.length) (hl : l.length ≤ 1000000) :
    Calls Try.prog 26 #[.pointer (some ⟨q, 0, none⟩), .int .i64 n] w fun e w' => (∃ A c, e = .returned (.slice A n c) ∧ w'.ownsRow (q + 1) 5 1 (.slice A n c) n (rowV .u8 n (atI l)))
      ∧ Buf w' q room (l.drop n) over ∧ Below q w w' ∧ w.heap.size ≤ w'.heap.size ∧ w.grownBy w' (some q) ∧ Sep w w' q e := by
  obtain ⟨lt, c0, ⟨A, c, c1, own⟩, c2, z1, z2⟩ := h
  obtain ⟨i0, hi, hz0, hz1, hz2⟩ := info_parts Try.info5
  have hcap := own_cap own
  have hr := Reads.own own
  have hcn : n ≤ c := by omega
  go_enter Try.func26, Try.ntmps26
  go_wp2_with (at_builtin; refine wpList_app _ rfl _ _ 22 rfl w.heap.size 5 i0 (.int .u8 0) 1 Try.underlying22 hi hz0 hz1 hz2 rfl _ 0 [] rfl (World.ownsRow_nil _ _ _ _) .u8 w.heap.size A n n (atI l) rfl ?r1 ?r2 ?r3 ?r4 ?_)
  case r1 => exact hr.first hn
  case r2 => omega
  case r3 => omega
  case r4 => omega
  intro v1 w1 hown1 hgrow1
  obtain ⟨A1, k1, rfl⟩ := own_form hown1
  have hb1 : Below w.heap.size w w1 := (Below.refl _ _).grown hgrow1 (Nat.le_refl _) (fun _ h => by cases h)
  have hs1 := hb1.size
  obtain ⟨X, rfl⟩ : ∃ X : Later w.heap.size w, w1 = X.w := ⟨⟨w1, hb1⟩, rfl⟩
  have HO1 := Lib.hid hown1
  have hq1 : q < X.w.heap.size := Nat.lt_of_lt_of_le lt hs1
  have HR := Lib.hid hr
  have HB1 := Lib.hid hb1
  clear hown1 hgrow1 own hb1 hr
  have hcase : c = n ∨ ¬ c = n := by omega
  rcases hcase with hcc | hcc
  · go_wp2_with (at_builtin; refine wpList_app _ rfl _ _ 22 rfl X.w.heap.size 5 i0 (.int .u8 0) 1 Try.underlying22 hi hz0 hz1 hz2 rfl _ 0 [] rfl (World.ownsRow_nil _ _ _ _) .u8 w.heap.size _ _ _ (fun j => atI l (n + j)) rfl ?r1 ?r2 ?r3 ?r4 ?_)
    case r1 => exact fun hlt => absurd hlt (by omega)
    case r2 => omega
    case r3 => omega
    case r4 => omega
    intro v2 w2 hown2 hgrow2
    obtain ⟨A2, k2, rfl⟩ := own_form hown2
    have hb2 : Below X.w.heap.size X.w w2 := (Below.refl _ _).grown hgrow2 (Nat.le_refl _) (fun _ h => by cases h)
    have hs2 := hb2.size
    obtain ⟨Y, rfl⟩ : ∃ Y : Later X.w.heap.size X.w, w2 = Y.w := ⟨⟨w2, hb2⟩, rfl⟩
    have HO2 := Lib.hid hown2
    have HB2 := Lib.hid hb2
    clear hown2 hgrow2 hb2
    go_wp2
    go_ret
    refine ⟨⟨_, _, rfl, ?_⟩, ⟨by go_size, by go_simp, ⟨A2, k2, ?_, ?_⟩, by go_simp, by go_simp, by go_simp⟩, by repeat' (first | (with_reducible exact Below.refl _ _) | (with_reducible assumption) | (with_reducible refine Later.step ?_ ?_ _) | (with_reducible refine Below.alloc ?_ ?_ _) | (with_reducible refine Below.drew ?_) | (with_reducible refine bel_drewN ?_ _) | (with_reducible refine bel_grown ?_ (by assumption) ?_ ?_) | (with_reducible refine Below.setCell ?_ ?_ _) | go_size), by go_size, grown_trans (grown_trans (grown_of_below X.is _) (grown_of_below Y.is _)) (grown_set _ ⟨q, 1, none⟩ _), sep_take HO1.out HO2.out hs1 hq1 (by go_simp)⟩
    · have := own_base (own_set (p := ⟨q, 1, none⟩) (own_keep HO1.out HB2.out) lt (.slice A2 (l.length - n) k2)) (show q + 1 ≤ _ from lt)
      simpa using this
    · rw [List.length_drop]; go_simp
    · have := own_base (own_set (p := ⟨q, 1, none⟩) HO2.out hq1 (.slice A2 (l.length - n) k2)) (show q + 1 ≤ _ from hq1)
      rw [rowV_drop] at this
      rw [List.length_drop] at this ⊢
      simpa using this
  · go_wp2_with (at_builtin; refine wpList_app _ rfl _ _ 22 rfl X.w.heap.size 5 i0 (.int .u8 0) 1 Try.underlying22 hi hz0 hz1 hz2 rfl _ 0 [] rfl (World.ownsRow_nil _ _ _ _) .u8 w.heap.size _ (l.length - n) (c - n) (fun j => atI l (n + j)) rfl ?r1 ?r2 ?r3 ?r4 ?_)
    case r1 => exact ((HR.out.keep X.is).from_ (fun b o e hlt => by subst e; first | (exfalso; omega) | rfl | simp [Addr.add_lit] | skip))
    case r2 => omega
    case r3 => omega
    case r4 => omega
    intro v2 w2 hown2 hgrow2
    obtain ⟨A2, k2, rfl⟩ := own_form hown2
    have hb2 : Below X.w.heap.size X.w w2 := (Below.refl _ _).grown hgrow2 (Nat.le_refl _) (fun _ h => by cases h)
    have hs2 := hb2.size
    obtain ⟨Y, rfl⟩ : ∃ Y : Later X.w.heap.size X.w, w2 = Y.w := ⟨⟨w2, hb2⟩, rfl⟩
    have HO2 := Lib.hid hown2
    have HB2 := Lib.hid hb2
    clear hown2 hgrow2 hb2
    go_wp2
    go_ret
    refine ⟨⟨_, _, rfl, ?_⟩, ⟨by go_size, by go_simp, ⟨A2, k2, ?_, ?_⟩, by go_simp, by go_simp, by go_simp⟩, by repeat' (first | (with_reducible exact Below.refl _ _) | (with_reducible assumption) | (with_reducible refine Later.step ?_ ?_ _) | (with_reducible refine Below.alloc ?_ ?_ _) | (with_reducible refine Below.drew ?_) | (with_reducible refine bel_drewN ?_ _) | (with_reducible refine bel_grown ?_ (by assumption) ?_ ?_) | (with_reducible refine Below.setCell ?_ ?_ _) | go_size), by go_size, grown_trans (grown_trans (grown_of_below X.is _) (grown_of_below Y.is _)) (grown_set _ ⟨q, 1, none⟩ _), sep_take HO1.out HO2.out hs1 hq1 (by go_simp)⟩
    · have := own_base (own_set (p := ⟨q, 1, none⟩) (own_keep HO1.out HB2.out) lt (.slice A2 (l.length - n) k2)) (show q + 1 ≤ _ from lt)
      simpa using this
    · rw [List.length_drop]; go_simp
    · have := own_base (own_set (p := ⟨q, 1, none⟩) HO2.out hq1 (.slice A2 (l.length - n) k2)) (show q + 1 ≤ _ from hq1)
      rw [rowV_drop] at this
      rw [List.length_drop] at this ⊢
      simpa using this
theorem take_two_sep (q room over : Nat) (l : List Nat) (g1 : 2 ≤ l.length) (hl : l.length ≤ 4096) (X : World) (hX : Buf X q room l over) :
    Calls Try.prog 26 #[.pointer (some ⟨q, 0, none⟩), .int .i64 2] X (TakeSep q room over 2 l X) := take_sep q room over 2 l X hX g1 (by omega)
set_option maxHeartbeats 4000000 in
theorem next_sep (q room over : Nat) (l : List Nat) (w : World) (h : Buf w q room l over) (hf : Small l) (hl : l.length ≤ 4096) :
    Calls Try.prog 16 #[.pointer (some ⟨q, 0, none⟩)] w (NextSep q room over l w) := by
  have p1 := ready_any q room over l w h hf (by omega)
  have hlt := h.lt
  have HB := Lib.hid h
  have hk := kind_cases l
  have hb := lenI_bd hf
  have HF := Lib.hid hf
  rcases hk with hk | hk | hk
  · rw [hk] at p1
    have HK := Lib.hid hk
    have P1 := Lib.hid p1
    clear p1 hk hf h
    go_enter Try.func16, Try.ntmps16
    go_wp2_with (first
      | (go_at_call 22; refine P1.out.mono ?_; rintro e w' ⟨rfl, hb⟩; obtain ⟨X1, rfl, hl1, hm1⟩ := later (w.heap.size) hb (by first | exact Nat.le_refl _ | go_size); clear hb; (try simp only [World.size_alloc, World.size_setCell, World.size_drew] at hm1)))
    go_ret2
    unfold NextSep nextL nextO nextB
    rw [HK.out, if_neg (by decide), if_neg (by decide), if_neg (by decide)]
    exact ⟨_, _, rfl, World.ownsRow_nil _ _ _ _, HB.out.keep X1.is, by repeat' (first | (with_reducible exact Below.refl _ _) | (with_reducible assumption) | (with_reducible refine Later.step ?_ ?_ _) | (with_reducible refine Below.alloc ?_ ?_ _) | (with_reducible refine Below.drew ?_) | (with_reducible refine bel_drewN ?_ _) | (with_reducible refine bel_grown ?_ (by assumption) ?_ ?_) | (with_reducible refine Below.setCell ?_ ?_ _) | go_size), by go_size, grown_of_below X1.is _, fun h => absurd h (by decide), fun _ => X1.is⟩
  · obtain ⟨g1, g2, g3⟩ := kind_one hk
    rw [hk] at p1
    have HK := Lib.hid hk
    have P1 := Lib.hid p1
    have HP := Lib.hid (take_two_sep q room over l g1 hl)
    have HQ := Lib.hid (fun (X : World) (hX : Buf X q room (l.drop 2) over) => take_sep q room over (lenI l) (l.drop 2) X hX (by rw [List.length_drop]; omega) (by rw [List.length_drop]; omega))
    have HL := Lib.hid (fun (A : Option Addr) (c : Nat) (X : World) (hr : Reads .u8 X X.heap.size A 2 (atI l)) => length_any A c l X hr hf)
    clear p1 hk hf h
    obtain ⟨v, hv⟩ : ∃ v, lenI l = v := ⟨_, rfl⟩
    rw [hv] at HQ HL hb g2 g3
    have HV := Lib.hid hv
    clear hv
    go_enter Try.func16, Try.ntmps16
    go_wp2_with (first
      | (go_at_call 22; refine P1.out.mono ?_; rintro e w' ⟨rfl, hb⟩; obtain ⟨X1, rfl, hl1, hm1⟩ := later (w.heap.size) hb (by first | exact Nat.le_refl _ | go_size); clear hb; (try simp only [World.size_alloc, World.size_setCell, World.size_drew] at hm1))
      | (go_at_call 26; (with_reducible refine (HP.out _ (HB.out.keep X1.is)).mono ?_); rintro e w2 ⟨⟨A2, c2, rfl, own2⟩, hbuf2, hb2, hs2, hg2, hp2⟩; have HG2 := Lib.hid hg2; clear hg2 hp2; have HR2 := Lib.hid (Reads.own own2); have HB2 := Lib.hid hbuf2; obtain ⟨Y, rfl⟩ : ∃ Y : Later q X1.w, w2 = Y.w := ⟨⟨w2, hb2⟩, rfl⟩; clear own2 hbuf2 hb2)
      | (go_at_call 25; refine (HL.out _ _ _ HR2.out).mono ?_; rintro e w' ⟨rfl, hb⟩; obtain ⟨X3, rfl, hl3, hm3⟩ := later (Y.w.heap.size) hb (by first | exact Nat.le_refl _ | go_size); clear hb; (try simp only [World.size_alloc, World.size_setCell, World.size_drew] at hm3))
      | (go_at_call 26; (with_reducible refine (HQ.out _ (HB2.out.keep X3.is)).mono ?_); rintro e w4 ⟨⟨A4, c4, rfl, own4⟩, hbuf4, hb4, hs4, hg4, hp4⟩; have HG4 := Lib.hid hg4; have HP4 := Lib.hid hp4; clear hg4 hp4; have HO4 := Lib.hid own4; have HB4 := Lib.hid hbuf4; obtain ⟨Z, rfl⟩ : ∃ Y : Later q X3.w, w4 = Y.w := ⟨⟨w4, hb4⟩, rfl⟩; clear own4 hbuf4 hb4))
    go_ret2
    unfold NextSep nextL nextO nextB
    rw [HK.out, HV.out, if_pos rfl, if_pos rfl, if_neg (by decide)]
    have el : ((l.drop 2).take v).length = v := by rw [List.length_take, List.length_drop]; omega
    refine ⟨A4, c4, ?_, ?_, HB4.out, by repeat' (first | (with_reducible exact Below.refl _ _) | (with_reducible assumption) | (with_reducible refine Later.step ?_ ?_ _) | (with_reducible refine Below.alloc ?_ ?_ _) | (with_reducible refine Below.drew ?_) | (with_reducible refine bel_drewN ?_ _) | (with_reducible refine bel_grown ?_ (by assumption) ?_ ?_) | (with_reducible refine Below.setCell ?_ ?_ _) | go_size), by go_size, grown_trans (grown_trans (grown_of_below X1.is _) HG2.out) (grown_trans (grown_of_below X3.is _) HG4.out), fun _ => (by rw [el]; exact HP4.out.mono (by go_size)), fun h => absurd h (by decide)⟩
    · rw [el]; rfl
    · have := HO4.out
      rw [rowV_take (by rw [List.length_drop]; omega)] at this
      rw [el] at this ⊢
      exact this
  · obtain ⟨g1, g2⟩ := kind_two hk
    rw [hk] at p1
    have HK := Lib.hid hk
    have P1 := Lib.hid p1
    obtain ⟨n, hn⟩ : ∃ n, min (lenI l) (l.length - 2) = n := ⟨_, rfl⟩
    have HP := Lib.hid (take_two_sep q room over l g1 hl)
    have HQ := Lib.hid (fun (X : World) (hX : Buf X q room (l.drop 2) (lenI l)) => take_sep q room (lenI l) n (l.drop 2) X hX (by rw [List.length_drop]; omega) (by rw [List.length_drop]; omega))
    have HL := Lib.hid (fun (A : Option Addr) (c : Nat) (X : World) (hr : Reads .u8 X X.heap.size A 2 (atI l)) => length_any A c l X hr hf)
    clear p1 hk hf h
    obtain ⟨v, hv⟩ : ∃ v, lenI l = v := ⟨_, rfl⟩
    rw [hv] at HQ HL hb g2 hn
    have hmin : min (v : Int) ((l.length - 2 : Nat) : Int) = (n : Int) := by omega
    have hnv : n ≤ v := by omega
    have HV := Lib.hid hv
    have HN := Lib.hid hn
    clear hv hn
    go_enter Try.func16, Try.ntmps16
    go_wp2_with (first
      | (go_at_call 22; refine P1.out.mono ?_; rintro e w' ⟨rfl, hb⟩; obtain ⟨X1, rfl, hl1, hm1⟩ := later (w.heap.size) hb (by first | exact Nat.le_refl _ | go_size); clear hb; (try simp only [World.size_alloc, World.size_setCell, World.size_drew] at hm1))
      | (go_at_call 26; (with_reducible refine (HP.out _ (HB.out.keep X1.is)).mono ?_); rintro e w2 ⟨⟨A2, c2, rfl, own2⟩, hbuf2, hb2, hs2, hg2, hp2⟩; have HG2 := Lib.hid hg2; clear hg2 hp2; have HR2 := Lib.hid (Reads.own own2); have HB2 := Lib.hid hbuf2; obtain ⟨Y, rfl⟩ : ∃ Y : Later q X1.w, w2 = Y.w := ⟨⟨w2, hb2⟩, rfl⟩; clear own2 hbuf2 hb2)
      | (go_at_call 25; refine (HL.out _ _ _ HR2.out).mono ?_; rintro e w' ⟨rfl, hb⟩; obtain ⟨X3, rfl, hl3, hm3⟩ := later (Y.w.heap.size) hb (by first | exact Nat.le_refl _ | go_size); clear hb; (try simp only [World.size_alloc, World.size_setCell, World.size_drew] at hm3); have hbuf3 := HB2.out.keep X3.is; have HB3 := Lib.hid hbuf3; obtain ⟨lt3, _, ⟨A3, c3, d1, _⟩, d2, y1, y2⟩ := hbuf3; rw [List.length_drop] at d1))
    (refine wp_region_later (X3.w.heap.size) (by kernel_rfl) (by kernel_rfl) (by go_size) ?_; (repeat (go_big_quiet_step (fail))); refine wpQuiet_nil ?_; intro Xq hlq hmq)
    have hbS : Buf (X3.w.setCell ⟨q, 2, none⟩ (.int .i64 (v : Int))) q room (l.drop 2) v := HB3.out.over_set rfl
    have hbQ : Buf Xq.w q room (l.drop 2) v := hbS.keep (by rw [World.size_setCell]; exact Xq.is)
    have HBQ := Lib.hid hbQ
    clear hbS hbQ
    go_wp2_with (first
      | (go_at_call 26; (with_reducible refine (HQ.out _ HBQ.out).mono ?_); rintro e w4 ⟨⟨A4, c4, rfl, own4⟩, hbuf4, hb4, hs4, hg4, hp4⟩; have HG4 := Lib.hid hg4; have HP4 := Lib.hid hp4; clear hg4 hp4; have HB4 := Lib.hid hbuf4; obtain ⟨Z, rfl⟩ : ∃ Y : Later q Xq.w, w4 = Y.w := ⟨⟨w4, hb4⟩, rfl⟩; clear own4 hb4; obtain ⟨lt5, _, _, t2, _, u2⟩ := hbuf4))
    go_ret2
    unfold NextSep nextL nextO nextB
    rw [HK.out, HV.out, if_neg (by decide), if_neg (by decide), if_pos rfl, if_pos rfl, HN.out]
    exact ⟨_, _, rfl, World.ownsRow_nil _ _ _ _, HB4.out.over_set (by omega), by repeat' (first | (with_reducible exact Below.refl _ _) | (with_reducible assumption) | (with_reducible refine Later.step ?_ ?_ _) | (with_reducible refine Below.alloc ?_ ?_ _) | (with_reducible refine Below.drew ?_) | (with_reducible refine bel_drewN ?_ _) | (with_reducible refine bel_grown ?_ (by assumption) ?_ ?_) | (with_reducible refine Below.setCell ?_ ?_ _) | go_size), by go_size, grown_trans (grown_trans (grown_trans (grown_of_below X1.is _) HG2.out) (grown_trans (grown_of_below X3.is _) (grown_set _ ⟨q, 2, none⟩ _))) (grown_trans (grown_trans (grown_of_below (by rw [World.size_setCell]; exact Xq.is) _) HG4.out) (grown_set _ ⟨q, 2, none⟩ _)), fun _ => sep_none (HP4.out.mono (by go_size)) (by go_simp), fun h => absurd h (by decide)⟩
end Go.Proofs.Ythcecinhlhgohaa
