/- Tickets that came in: the document's All, the program's From walked. No condition beyond what the row of tickets reads as. -/
import Derived.Test.YtjfgjlklbepnjaaTkU
namespace Go.Proofs.Ytjfgjlklbepnjaa
open Go.RowKit
set_option linter.unusedSimpArgs false
set_option linter.unusedVariables false
set_option maxRecDepth 4000

theorem Tks.take {w : World} {B : Nat} {A : Option Addr} {T : List Tk} (h : Tks w B A T) {k : Nat} (hk : k ≤ T.length) : Tks w B A (T.take k) := fun hn => by
  rw [List.length_take] at hn
  obtain ⟨b, o, rfl, hlt, hc⟩ := h (by omega)
  refine ⟨b, o, rfl, hlt, fun i hi j hj => ?_⟩
  rw [List.length_take] at hi
  have e : (T.take k).getD i t0 = T.getD i t0 := by simp [List.getD, List.getElem?_take, show i < k by omega]
  rw [e]
  exact hc i (by omega) j hj
/-- Tickets that are those of a table. -/
def AllT (L : List Tk) : Prop := GoodT L ∧ L.length ≤ 8
open Classical in
noncomputable def allB (L : List Tk) : Bool := decide (AllT L)
theorem all_iff {L : List Tk} : allB L = true ↔ AllT L := by
  unfold allB
  exact @decide_eq_true_iff _ (Classical.propDecidable _)
/-- One more ticket that may be. -/
def okT (M : List Tk) (x : Tk) : Bool := !(decide (x.s = 0) || (findT M x.s).isSome || (decide (0 < x.p) && !(findT M x.p).isSome) || !rightG x.g)
theorem ok_iff {M : List Tk} {x : Tk} : okT M x = true ↔ x.s ≠ 0 ∧ findT M x.s = none ∧ Shut M x.p ∧ rightG x.g = true := by
  unfold okT Shut
  rw [← Option.isSome_iff_exists]
  cases h1 : (findT M x.s) <;> cases h2 : (findT M x.p) <;> cases h3 : rightG x.g <;> simp <;> omega
set_option maxHeartbeats 16000000 in
theorem kall_any (n c : Nat) (C : Option Addr) (L : List Tk) (w : World) (h : Tks w w.heap.size C L) (hn : L.length = n) (hn1 : n ≤ 1000) (hc : n ≤ c) (hc1 : c ≤ 9223372036854775807) :
    Calls Try.prog 31 #[.slice C n c] w fun e w' => e = .returned (.bool (allB L)) ∧ Below w.heap.size w w' := by
  have P1 := Lib.hid (fun (k s : Nat) (hk : k ≤ n) (Y : World) (hY : Below w.heap.size w Y) => kfind_any k (c) C (L.take k) s Y (((h.keep hY).more hY.size).take (by omega)) (by rw [List.length_take]; omega) (by omega))
  have HT := Lib.hid h
  have HN := Lib.hid hn
  obtain ⟨R, hR⟩ : ∃ R, allB L = R := ⟨_, rfl⟩
  rw [hR]
  have HR := Lib.hid hR
  clear h hn hR
  go_enter Try.func31, Try.ntmps31
  go_wp2
  go_loopw [3] (fun i wr => ∃ (k : Nat), (k ≤ n ∧ Hid (GoodT (L.take k))) ∧ i = .int .i64 k ∧ Below w.heap.size w wr) (fun i _ => n - (intOf i).toNat)
  case atStart => exact ⟨0, ⟨Nat.zero_le _, .nil⟩, rfl, Below.refl _ _⟩
  case round =>
    obtain ⟨k, ⟨hk, hgood⟩, rfl, hbel⟩ := hrel
    obtain ⟨X, rfl⟩ : ∃ X : Later w.heap.size w, wr = X.w := ⟨⟨wr, hbel⟩, rfl⟩
    clear hbel
    by_cases hlt : k < n
    · obtain ⟨b, o, hA, hB, c0, d1, c2, c3, c4, c5, c6, c7, c8, c9⟩ := tks_at HT.out (i := k) (by rw [HN.out]; exact hlt)
      subst hA
      have hmX := X.is.size
      have hcz : ¬ c = 0 := by omega
      have hI0 : (0 : Int) ≤ (k : Int) := by omega
      have hI1 : (k : Int) ≤ (c : Int) := by omega
      have hI2 : (k : Int) ≤ (n : Int) := by omega
      obtain ⟨x, hx⟩ : ∃ x, L.getD k t0 = x := ⟨_, rfl⟩
      rw [hx] at c0 d1 c2 c3 c4 c5 c6 c7 c8 c9
      have p1 := fun (Y : World) (hY : Below w.heap.size w Y) => P1.out k x.s hk Y hY
      have p2 := fun (Y : World) (hY : Below w.heap.size w Y) => P1.out k x.p hk Y hY
      have p3 := kright_any x.g
      have hok : okT (L.take k) x = !(decide (x.s = 0) || (findT (L.take k) x.s).isSome || (decide (0 < x.p) && !(findT (L.take k) x.p).isSome) || !rightG x.g) := rfl
      have HX := Lib.hid hx
      clear hx
      obtain ⟨f1, hf1⟩ : ∃ f1, fndT (L.take k) x.s = f1 := ⟨_, rfl⟩
      obtain ⟨f2, hf2⟩ : ∃ f2, fndT (L.take k) x.p = f2 := ⟨_, rfl⟩
      obtain ⟨e1, he1⟩ : ∃ e1, (findT (L.take k) x.s).isSome = e1 := ⟨_, rfl⟩
      obtain ⟨e2, he2⟩ : ∃ e2, (findT (L.take k) x.p).isSome = e2 := ⟨_, rfl⟩
      obtain ⟨r, hr⟩ : ∃ r, rightG x.g = r := ⟨_, rfl⟩
      rw [he1, hf1] at p1
      rw [he2, hf2] at p2
      rw [hr] at p3
      rw [he1, he2, hr] at hok
      have PA := Lib.hid p1
      have PB := Lib.hid p2
      have PC := Lib.hid p3
      have HOK := Lib.hid hok
      clear p1 p2 p3 hok hf1 hf2 he1 he2 hr
      go_wp2_with fail
      go_cut [5] from 14 to 25 (fun s wx => s = .bool e1 ∧ Below X.w.heap.size X.w wx)
      case first =>
        go_region_held3 (fun w' => w'.cell? ⟨b, o + k * 10, none⟩ = some (.int .u64 (x.s : Nat))) ((repeat' apply And.intro) <;> (repeat (first | (with_reducible assumption) | (with_reducible refine (World.cell?_alloc_lt _ _ _ ?_).trans ?_; focus (simp only [World.size_alloc, World.size_setCell, World.size_drew]; omega)) | (with_reducible refine (World.cell?_setCell_far _ _ _ _ ?_).trans ?_; focus (dsimp only; omega)) | (with_reducible refine (X1.is.cell (p := ⟨_, _, none⟩) ?_).trans ?_; focus (simp only [World.size_alloc, World.size_setCell, World.size_drew]; omega)) | (with_reducible refine (X.is.cell (p := ⟨_, _, none⟩) ?_).trans ?_; focus (simp only [World.size_alloc, World.size_setCell, World.size_drew]; omega)) | (simp only [World.cell?_drew]))))
          (first
            | (go_at_call 12; with_reducible refine (PA.out _ ?_).mono ?_; (focus (repeat' (first | (with_reducible exact Below.refl _ _) | (with_reducible assumption) | (with_reducible refine Later.step ?_ ?_ _) | (with_reducible refine Below.alloc ?_ ?_ _) | (with_reducible refine Below.drew ?_) | (with_reducible refine bel_drewN ?_ _) | (with_reducible refine bel_grown ?_ (by assumption) ?_ ?_) | (with_reducible refine Below.setCell ?_ ?_ _) | go_size))); rintro e w' ⟨rfl, hb⟩; obtain ⟨X1, rfl, hl1, hm1⟩ := later _ hb (Nat.le_refl _); clear hb; (try simp only [World.size_alloc, World.size_setCell, World.size_drew] at hm1 hl1)))
        all_goals
          go_wp2_with fail
          go_meet
          exact ⟨rfl, by repeat' (first | (with_reducible exact Below.refl _ _) | (with_reducible assumption) | (with_reducible refine Later.step ?_ ?_ _) | (with_reducible refine Below.alloc ?_ ?_ _) | (with_reducible refine Below.drew ?_) | (with_reducible refine bel_drewN ?_ _) | (with_reducible refine bel_grown ?_ (by assumption) ?_ ?_) | (with_reducible refine Below.setCell ?_ ?_ _) | go_size)⟩
      obtain ⟨rfl, hb1⟩ := hcut
      obtain ⟨X1, rfl⟩ : ∃ Z : Later X.w.heap.size X.w, wc = Z.w := ⟨⟨wc, hb1⟩, rfl⟩
      have hm1 := X1.is.size
      clear hb1
      go_wp2_with fail
      go_cut [7] from 26 to 37 (fun s wx => s = .bool e2 ∧ Below X1.w.heap.size X1.w wx)
      case first =>
        go_region_held3 (fun w' => w'.cell? ⟨b, o + k * 10 + 1, none⟩ = some (.int .u64 (x.p : Nat))) ((repeat' apply And.intro) <;> (repeat (first | (with_reducible assumption) | (with_reducible refine (World.cell?_alloc_lt _ _ _ ?_).trans ?_; focus (simp only [World.size_alloc, World.size_setCell, World.size_drew]; omega)) | (with_reducible refine (World.cell?_setCell_far _ _ _ _ ?_).trans ?_; focus (dsimp only; omega)) | (with_reducible refine (X2.is.cell (p := ⟨_, _, none⟩) ?_).trans ?_; focus (simp only [World.size_alloc, World.size_setCell, World.size_drew]; omega)) | (with_reducible refine (X1.is.cell (p := ⟨_, _, none⟩) ?_).trans ?_; focus (simp only [World.size_alloc, World.size_setCell, World.size_drew]; omega)) | (with_reducible refine (X.is.cell (p := ⟨_, _, none⟩) ?_).trans ?_; focus (simp only [World.size_alloc, World.size_setCell, World.size_drew]; omega)) | (simp only [World.cell?_drew]))))
          (first
            | (go_at_call 12; with_reducible refine (PB.out _ ?_).mono ?_; (focus (repeat' (first | (with_reducible exact Below.refl _ _) | (with_reducible assumption) | (with_reducible refine Later.step ?_ ?_ _) | (with_reducible refine Below.alloc ?_ ?_ _) | (with_reducible refine Below.drew ?_) | (with_reducible refine bel_drewN ?_ _) | (with_reducible refine bel_grown ?_ (by assumption) ?_ ?_) | (with_reducible refine Below.setCell ?_ ?_ _) | go_size))); rintro e w' ⟨rfl, hb⟩; obtain ⟨X2, rfl, hl2, hm2⟩ := later _ hb (Nat.le_refl _); clear hb; (try simp only [World.size_alloc, World.size_setCell, World.size_drew] at hm2 hl2)))
        all_goals
          go_wp2_with fail
          go_meet
          exact ⟨rfl, by repeat' (first | (with_reducible exact Below.refl _ _) | (with_reducible assumption) | (with_reducible refine Later.step ?_ ?_ _) | (with_reducible refine Below.alloc ?_ ?_ _) | (with_reducible refine Below.drew ?_) | (with_reducible refine bel_drewN ?_ _) | (with_reducible refine bel_grown ?_ (by assumption) ?_ ?_) | (with_reducible refine Below.setCell ?_ ?_ _) | go_size)⟩
      obtain ⟨rfl, hb2⟩ := hcut
      obtain ⟨X2, rfl⟩ : ∃ Z : Later X1.w.heap.size X1.w, wc = Z.w := ⟨⟨wc, hb2⟩, rfl⟩
      have hm2 := X2.is.size
      clear hb2
      obtain ⟨z, hz⟩ : ∃ z, ((x.s : Int) == 0) = z := ⟨_, rfl⟩
      obtain ⟨pb, hp2⟩ : ∃ pb, decide (0 < x.p) = pb := ⟨_, rfl⟩
      have hz2 : decide (x.s = 0) = z := by rw [← hz]; by_cases h0 : x.s = 0 <;> simp [h0]
      have HOK2 := Lib.hid (show okT (L.take k) x = !(z || e1 || (pb && !e2) || !r) by rw [HOK.out, hz2, hp2])
      have HRF := Lib.hid (show okT (L.take k) x = false → R = false from fun h => by
        rw [← HR.out]
        unfold allB
        rw [decide_eq_false_iff_not]
        intro ha
        have h1 := good_at ha.1 (i := k) (by rw [HN.out]; exact hlt)
        rw [HX.out] at h1
        rw [ok_iff.2 h1.2] at h
        cases h)
      have HNX := Lib.hid (show okT (L.take k) x = true → GoodT (L.take (k + 1)) from fun h => by
        have h1 := ok_iff.1 h
        rw [take_snoc (by rw [HN.out]; exact hlt), HX.out]
        exact .snoc hgood.out h1.1 h1.2.1 h1.2.2.1 h1.2.2.2)
      clear HOK hz2
      cases z <;> cases e1 <;> cases pb <;> cases e2 <;> cases r
      all_goals
        first
          | (have hF : R = false := HRF.out (by rw [HOK2.out]; rfl)
             subst hF
             go_wp2_with (first
               | (go_at_call 28; refine (PC.out _).mono ?_; rintro e w' ⟨rfl, hb⟩; obtain ⟨X3, rfl, hl3, hm3⟩ := later _ hb (Nat.le_refl _); clear hb; (try simp only [World.size_alloc, World.size_setCell, World.size_drew] at hm3 hl3)))
             go_ret
             exact ⟨rfl, by repeat' (first | (with_reducible exact Below.refl _ _) | (with_reducible assumption) | (with_reducible refine Later.step ?_ ?_ _) | (with_reducible refine Below.alloc ?_ ?_ _) | (with_reducible refine Below.drew ?_) | (with_reducible refine bel_drewN ?_ _) | (with_reducible refine bel_grown ?_ (by assumption) ?_ ?_) | (with_reducible refine Below.setCell ?_ ?_ _) | go_size)⟩)
          | (have hG : Hid (GoodT (L.take (k + 1))) := HNX.out (by rw [HOK2.out]; rfl)
             go_wp2_with (first
               | (go_at_call 28; refine (PC.out _).mono ?_; rintro e w' ⟨rfl, hb⟩; obtain ⟨X3, rfl, hl3, hm3⟩ := later _ hb (Nat.le_refl _); clear hb; (try simp only [World.size_alloc, World.size_setCell, World.size_drew] at hm3 hl3)))
             go_roundw
             case rel => exact ⟨k + 1, ⟨by omega, hG⟩, by go_num, by repeat' (first | (with_reducible exact Below.refl _ _) | (with_reducible assumption) | (with_reducible refine Later.step ?_ ?_ _) | (with_reducible refine Below.alloc ?_ ?_ _) | (with_reducible refine Below.drew ?_) | (with_reducible refine bel_drewN ?_ _) | (with_reducible refine bel_grown ?_ (by assumption) ?_ ?_) | (with_reducible refine Below.setCell ?_ ?_ _) | go_size)⟩
             case measure => simp [intOf]; omega)
    · obtain rfl : k = n := by omega
      have hRn : R = decide ((k : Int) ≤ 8) := by
        have hg := hgood.out
        rw [← HN.out, List.take_length] at hg
        rw [← HR.out]
        rw [Bool.eq_iff_iff, all_iff, decide_eq_true_eq]
        unfold AllT
        rw [HN.out]
        exact ⟨fun h => by omega, fun h => ⟨hg, by omega⟩⟩
      subst hRn
      go_wp2
      go_ret
      exact ⟨rfl, by repeat' (first | (with_reducible exact Below.refl _ _) | (with_reducible assumption) | (with_reducible refine Later.step ?_ ?_ _) | (with_reducible refine Below.alloc ?_ ?_ _) | (with_reducible refine Below.drew ?_) | (with_reducible refine bel_drewN ?_ _) | (with_reducible refine bel_grown ?_ (by assumption) ?_ ?_) | (with_reducible refine Below.setCell ?_ ?_ _) | go_size)⟩
end Go.Proofs.Ytjfgjlklbepnjaa
