/- The next frame is taken out of a buffer, walked. No condition beyond what the memory holds. -/
import Derived.Test.YthcecinhlhgohaaFrC
namespace Go.Proofs.Ythcecinhlhgohaa
open Go.RowKit
set_option linter.unusedSimpArgs false
set_option linter.unusedVariables false

theorem Buf.over_set {w : World} {q room over : Nat} {l : List Nat} (h : Buf w q room l over) {o : Nat} {x : Int} (hx : x = o) : Buf (w.setCell ⟨q, 2, none⟩ (.int .i64 x)) q room l o := by
  subst hx
  obtain ⟨lt, c0, ⟨A, c, c1, own⟩, c2, z1, z2⟩ := h
  refine ⟨by rw [World.size_setCell]; exact lt, ?_, ⟨A, c, ?_, own_set own (show q < q + 1 by omega) _⟩, ?_, ?_, ?_⟩
  · rw [World.cell?_setCell_other _ _ _ _ (by simp)]; exact c0
  · rw [World.cell?_setCell_other _ _ _ _ (by simp)]; exact c1
  · exact World.cell?_setCell_same _ _ _ c2
  · rw [World.frozen?_setCell]; exact z1
  · rw [World.frozen?_setCell]; exact z2
def nextL (l : List Nat) : List Nat := if kindN l = 1 then (l.drop 2).drop (lenI l) else if kindN l = 2 then (l.drop 2).drop (min (lenI l) (l.length - 2)) else l
def nextO (l : List Nat) (over : Nat) : Nat := if kindN l = 2 then lenI l - min (lenI l) (l.length - 2) else over
def nextB (l : List Nat) : List Nat := if kindN l = 1 then (l.drop 2).take (lenI l) else []
/-- What Next leaves. -/
def NextPost (q room over : Nat) (l : List Nat) (w : World) (e : Ending) (w' : World) : Prop :=
  (∃ A c, e = .returned (.tuple #[.slice A (nextB l).length c, .int .i64 (kindN l)]) ∧ w'.ownsRow (q + 1) 5 1 (.slice A (nextB l).length c) (nextB l).length (rowV .u8 (nextB l).length (atI (nextB l))))
    ∧ Buf w' q room (nextL l) (nextO l over) ∧ Below q w w' ∧ w.heap.size ≤ w'.heap.size ∧ w.grownBy w' (some q)
def TakePost (q room over n : Nat) (l : List Nat) (w : World) (e : Ending) (w' : World) : Prop :=
  (∃ A c, e = .returned (.slice A n c) ∧ w'.ownsRow (q + 1) 5 1 (.slice A n c) n (rowV .u8 n (atI l))) ∧ Buf w' q room (l.drop n) over ∧ Below q w w' ∧ w.heap.size ≤ w'.heap.size ∧ w.grownBy w' (some q)
theorem kind_one {l : List Nat} (h : kindN l = 1) : 2 ≤ l.length ∧ lenI l ≤ 600 ∧ 2 + lenI l ≤ l.length := by
  unfold kindN at h
  split at h
  · omega
  · split at h
    · omega
    · split at h
      · omega
      · omega
theorem kind_two {l : List Nat} (h : kindN l = 2) : 2 ≤ l.length ∧ 600 < lenI l := by
  unfold kindN at h
  split at h
  · omega
  · split at h
    · omega
    · split at h
      · omega
      · omega
theorem kind_cases (l : List Nat) : kindN l = 0 ∨ kindN l = 1 ∨ kindN l = 2 := by
  unfold kindN; repeat' split
  all_goals omega
theorem take_two (q room over : Nat) (l : List Nat) (g1 : 2 ≤ l.length) (hl : l.length ≤ 4096) (X : World) (hX : Buf X q room l over) :
    Calls Try.prog 26 #[.pointer (some ⟨q, 0, none⟩), .int .i64 2] X (TakePost q room over 2 l X) := take_any q room over 2 l X hX g1 (by omega)
set_option maxHeartbeats 4000000 in
theorem next_any (q room over : Nat) (l : List Nat) (w : World) (h : Buf w q room l over) (hf : Small l) (hl : l.length ≤ 4096) :
    Calls Try.prog 16 #[.pointer (some ⟨q, 0, none⟩)] w (NextPost q room over l w) := by
  have p1 := ready_any q room over l w h hf (by omega)
  have hlt := h.lt
  have HB := Lib.hid h
  have hk := kind_cases l
  have hb := lenI_bd hf
  have HF := Lib.hid hf
  rcases hk with hk | hk | hk
  · rw [hk] at p1
    have HK := Lib.hid hk
    have P1 := Lib.hid p1
    clear p1 hk hf h
    go_enter Try.func16, Try.ntmps16
    go_wp2_with (first
      | (go_at_call 22; refine P1.out.mono ?_; rintro e w' ⟨rfl, hb⟩; obtain ⟨X1, rfl, hl1, hm1⟩ := later (w.heap.size) hb (by first | exact Nat.le_refl _ | go_size); clear hb; (try simp only [World.size_alloc, World.size_setCell, World.size_drew] at hm1)))
    go_ret2
    unfold NextPost nextL nextO nextB
    rw [HK.out, if_neg (by decide), if_neg (by decide), if_neg (by decide)]
    exact ⟨⟨_, _, rfl, World.ownsRow_nil _ _ _ _⟩, HB.out.keep X1.is, by repeat' (first | (with_reducible exact Below.refl _ _) | (with_reducible assumption) | (with_reducible refine Later.step ?_ ?_ _) | (with_reducible refine Below.alloc ?_ ?_ _) | (with_reducible refine Below.drew ?_) | (with_reducible refine bel_drewN ?_ _) | (with_reducible refine bel_grown ?_ (by assumption) ?_ ?_) | (with_reducible refine Below.setCell ?_ ?_ _) | go_size), by go_size, grown_of_below X1.is _⟩
  · obtain ⟨g1, g2, g3⟩ := kind_one hk
    rw [hk] at p1
    have HK := Lib.hid hk
    have P1 := Lib.hid p1
    have HP := Lib.hid (take_two q room over l g1 hl)
    have HQ := Lib.hid (fun (X : World) (hX : Buf X q room (l.drop 2) over) => take_any q room over (lenI l) (l.drop 2) X hX (by rw [List.length_drop]; omega) (by rw [List.length_drop]; omega))
    have HL := Lib.hid (fun (A : Option Addr) (c : Nat) (X : World) (hr : Reads .u8 X X.heap.size A 2 (atI l)) => length_any A c l X hr hf)
    clear p1 hk hf h
    obtain ⟨v, hv⟩ : ∃ v, lenI l = v := ⟨_, rfl⟩
    rw [hv] at HQ HL hb g2 g3
    have HV := Lib.hid hv
    clear hv
    go_enter Try.func16, Try.ntmps16
    go_wp2_with (first
      | (go_at_call 22; refine P1.out.mono ?_; rintro e w' ⟨rfl, hb⟩; obtain ⟨X1, rfl, hl1, hm1⟩ := later (w.heap.size) hb (by first | exact Nat.le_refl _ | go_size); clear hb; (try simp only [World.size_alloc, World.size_setCell, World.size_drew] at hm1))
      | (go_at_call 26; (with_reducible refine (HP.out _ (HB.out.keep X1.is)).mono ?_); rintro e w2 ⟨⟨A2, c2, rfl, own2⟩, hbuf2, hb2, hs2, hg2⟩; have HG2 := Lib.hid hg2; clear hg2; have HR2 := Lib.hid (Reads.own own2); have HB2 := Lib.hid hbuf2; obtain ⟨Y, rfl⟩ : ∃ Y : Later q X1.w, w2 = Y.w := ⟨⟨w2, hb2⟩, rfl⟩; clear own2 hbuf2 hb2)
      | (go_at_call 25; refine (HL.out _ _ _ HR2.out).mono ?_; rintro e w' ⟨rfl, hb⟩; obtain ⟨X3, rfl, hl3, hm3⟩ := later (Y.w.heap.size) hb (by first | exact Nat.le_refl _ | go_size); clear hb; (try simp only [World.size_alloc, World.size_setCell, World.size_drew] at hm3))
      | (go_at_call 26; (with_reducible refine (HQ.out _ (HB2.out.keep X3.is)).mono ?_); rintro e w4 ⟨⟨A4, c4, rfl, own4⟩, hbuf4, hb4, hs4, hg4⟩; have HG4 := Lib.hid hg4; clear hg4; have HO4 := Lib.hid own4; have HB4 := Lib.hid hbuf4; obtain ⟨Z, rfl⟩ : ∃ Y : Later q X3.w, w4 = Y.w := ⟨⟨w4, hb4⟩, rfl⟩; clear own4 hbuf4 hb4))
    go_ret2
    unfold NextPost nextL nextO nextB
    rw [HK.out, HV.out, if_pos rfl, if_pos rfl, if_neg (by decide)]
    have el : ((l.drop 2).take v).length = v := by rw [List.length_take, List.length_drop]; omega
    refine ⟨⟨A4, c4, ?_, ?_⟩, HB4.out, by repeat' (first | (with_reducible exact Below.refl _ _) | (with_reducible assumption) | (with_reducible refine Later.step ?_ ?_ _) | (with_reducible refine Below.alloc ?_ ?_ _) | (with_reducible refine Below.drew ?_) | (with_reducible refine bel_drewN ?_ _) | (with_reducible refine bel_grown ?_ (by assumption) ?_ ?_) | (with_reducible refine Below.setCell ?_ ?_ _) | go_size), by go_size, grown_trans (grown_trans (grown_of_below X1.is _) HG2.out) (grown_trans (grown_of_below X3.is _) HG4.out)⟩
    · rw [el]; rfl
    · have := HO4.out
      rw [rowV_take (by rw [List.length_drop]; omega)] at this
      rw [el] at this ⊢
      exact this
  · obtain ⟨g1, g2⟩ := kind_two hk
    rw [hk] at p1
    have HK := Lib.hid hk
    have P1 := Lib.hid p1
    obtain ⟨n, hn⟩ : ∃ n, min (lenI l) (l.length - 2) = n := ⟨_, rfl⟩
    have HP := Lib.hid (take_two q room over l g1 hl)
    have HQ := Lib.hid (fun (X : World) (hX : Buf X q room (l.drop 2) (lenI l)) => take_any q room (lenI l) n (l.drop 2) X hX (by rw [List.length_drop]; omega) (by rw [List.length_drop]; omega))
    have HL := Lib.hid (fun (A : Option Addr) (c : Nat) (X : World) (hr : Reads .u8 X X.heap.size A 2 (atI l)) => length_any A c l X hr hf)
    clear p1 hk hf h
    obtain ⟨v, hv⟩ : ∃ v, lenI l = v := ⟨_, rfl⟩
    rw [hv] at HQ HL hb g2 hn
    have hmin : min (v : Int) ((l.length - 2 : Nat) : Int) = (n : Int) := by omega
    have hnv : n ≤ v := by omega
    have HV := Lib.hid hv
    have HN := Lib.hid hn
    clear hv hn
    go_enter Try.func16, Try.ntmps16
    go_wp2_with (first
      | (go_at_call 22; refine P1.out.mono ?_; rintro e w' ⟨rfl, hb⟩; obtain ⟨X1, rfl, hl1, hm1⟩ := later (w.heap.size) hb (by first | exact Nat.le_refl _ | go_size); clear hb; (try simp only [World.size_alloc, World.size_setCell, World.size_drew] at hm1))
      | (go_at_call 26; (with_reducible refine (HP.out _ (HB.out.keep X1.is)).mono ?_); rintro e w2 ⟨⟨A2, c2, rfl, own2⟩, hbuf2, hb2, hs2, hg2⟩; have HG2 := Lib.hid hg2; clear hg2; have HR2 := Lib.hid (Reads.own own2); have HB2 := Lib.hid hbuf2; obtain ⟨Y, rfl⟩ : ∃ Y : Later q X1.w, w2 = Y.w := ⟨⟨w2, hb2⟩, rfl⟩; clear own2 hbuf2 hb2)
      | (go_at_call 25; refine (HL.out _ _ _ HR2.out).mono ?_; rintro e w' ⟨rfl, hb⟩; obtain ⟨X3, rfl, hl3, hm3⟩ := later (Y.w.heap.size) hb (by first | exact Nat.le_refl _ | go_size); clear hb; (try simp only [World.size_alloc, World.size_setCell, World.size_drew] at hm3); have hbuf3 := HB2.out.keep X3.is; have HB3 := Lib.hid hbuf3; obtain ⟨lt3, _, ⟨A3, c3, d1, _⟩, d2, y1, y2⟩ := hbuf3; rw [List.length_drop] at d1))
    (refine wp_region_later (X3.w.heap.size) (by kernel_rfl) (by kernel_rfl) (by go_size) ?_; (repeat (go_big_quiet_step (fail))); refine wpQuiet_nil ?_; intro Xq hlq hmq)
    have hbS : Buf (X3.w.setCell ⟨q, 2, none⟩ (.int .i64 (v : Int))) q room (l.drop 2) v := HB3.out.over_set rfl
    have hbQ : Buf Xq.w q room (l.drop 2) v := hbS.keep (by rw [World.size_setCell]; exact Xq.is)
    have HBQ := Lib.hid hbQ
    clear hbS hbQ
    go_wp2_with (first
      | (go_at_call 26; (with_reducible refine (HQ.out _ HBQ.out).mono ?_); rintro e w4 ⟨⟨A4, c4, rfl, own4⟩, hbuf4, hb4, hs4, hg4⟩; have HG4 := Lib.hid hg4; clear hg4; have HB4 := Lib.hid hbuf4; obtain ⟨Z, rfl⟩ : ∃ Y : Later q Xq.w, w4 = Y.w := ⟨⟨w4, hb4⟩, rfl⟩; clear own4 hb4; obtain ⟨lt5, _, _, t2, _, u2⟩ := hbuf4))
    go_ret2
    unfold NextPost nextL nextO nextB
    rw [HK.out, HV.out, if_neg (by decide), if_neg (by decide), if_pos rfl, if_pos rfl, HN.out]
    exact ⟨⟨_, _, rfl, World.ownsRow_nil _ _ _ _⟩, HB4.out.over_set (by omega), by repeat' (first | (with_reducible exact Below.refl _ _) | (with_reducible assumption) | (with_reducible refine Later.step ?_ ?_ _) | (with_reducible refine Below.alloc ?_ ?_ _) | (with_reducible refine Below.drew ?_) | (with_reducible refine bel_drewN ?_ _) | (with_reducible refine bel_grown ?_ (by assumption) ?_ ?_) | (with_reducible refine Below.setCell ?_ ?_ _) | go_size), by go_size, grown_trans (grown_trans (grown_trans (grown_of_below X1.is _) HG2.out) (grown_trans (grown_of_below X3.is _) (grown_set _ ⟨q, 2, none⟩ _))) (grown_trans (grown_trans (grown_of_below (by rw [World.size_setCell]; exact Xq.is) _) HG4.out) (grown_set _ ⟨q, 2, none⟩ _))⟩
end Go.Proofs.Ythcecinhlhgohaa
