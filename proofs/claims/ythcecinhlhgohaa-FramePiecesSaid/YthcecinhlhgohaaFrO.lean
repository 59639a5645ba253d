/- Whatever is done with a buffer: the statement walked. No condition beyond what the slices read as. -/
import Derived.Test.YthcecinhlhgohaaFrN
namespace Go.Proofs.Ythcecinhlhgohaa
open Go.RowKit
set_option linter.unusedSimpArgs false
set_option linter.unusedVariables false
set_option maxRecDepth 2000

theorem reads_grown {k : IntKind} {w w' : World} {B n q : Nat} {A : Option Addr} {f : Nat → Int} (h : Reads k w B A n f) (hg : w.grownBy w' (some q)) (hB : B ≤ w.heap.size) (hne : 0 < n → ∀ b o, A = some ⟨b, o, none⟩ → b ≠ q) : Reads k w' B A n f := fun hn => by
  obtain ⟨b, o, rfl, hb, hc⟩ := h hn
  exact ⟨b, o, rfl, hb, fun j hj => hg.cell (hc j hj) (fun e => hne hn b o rfl (by injection e))⟩
theorem rec_grown {w w' : World} {b q room n c over : Nat} {A : Option Addr} (h : Rec w b room A n c over) (hg : w.grownBy w' (some q)) (hne : b ≠ q) : Rec w' b room A n c over :=
  (hg.block b h.cells.2.2.2.2 (fun e => hne (by injection e))).trans h
theorem rec_below {w w' : World} {b room n c over : Nat} {A : Option Addr} (h : Rec w b room A n c over) (hb : Below w.heap.size w w') : Rec w' b room A n c over := (hb.block b h.cells.2.2.2.2).trans h
theorem Rec.set0' {w : World} {b r0 room n c over : Nat} {A : Option Addr} (h : Rec w b r0 A n c over) : Rec (w.setCell ⟨b, 0, none⟩ (.int .i64 room)) b room A n c over := by
  unfold Rec at h ⊢
  simp [World.setCell, Array.getElem?_modify, h]
/-- Behind bytes that came in: what the document's buffer is made of is as it was. -/
theorem fed_kept {x y z : World} {q r R room over RB p9 n ca c2 over2 n1 over1 : Nat} {l : List Nat} {A A2 : Option Addr} {ok : Bool} {f : Nat → Int} (hB : Buf x q room l over) (hRx : Rec x RB R A n ca over1) (hxy : Below x.heap.size x y)
    (hR9 : Rec y p9 r A2 n1 c2 over2) (hRd : Reads .u8 y y.heap.size A2 n1 f) (hp9 : x.heap.size ≤ p9) (hRq : RB ≠ q)
    (hK : Kept y z q) (hf : ok = false → Below y.heap.size y z) (hn : ok = true → 0 < n1 → ∀ b o, A2 = some ⟨b, o, none⟩ → x.heap.size ≤ b) :
    Rec z p9 r A2 n1 c2 over2 ∧ Rec z RB R A n ca over1 ∧ Reads .u8 z y.heap.size A2 n1 f := by
  have hBy := hB.keep hxy
  have hRy := rec_below hRx hxy
  have hq : q < x.heap.size := hB.lt
  have h1 := Rec.apart hBy hRy
  have h9 := Rec.apart hBy hR9
  have hg : ∀ g o n c, y.cell? ⟨q, 1, none⟩ = some (.slice (some ⟨g, o, none⟩) n c) → g < x.heap.size := fun g o n c h => by
    have e := hxy.block q hq
    refine (Rec.apart hB hRx g o n c ?_).2
    simp only [World.cell?] at h ⊢
    rw [← e]
    exact h
  refine ⟨(hK p9 hR9.cells.2.2.2.2 (by omega) (fun g o n c h => (h9 g o n c h).1)).trans hR9, (hK RB hRy.cells.2.2.2.2 hRq (fun g o n c h => (h1 g o n c h).1)).trans hRy, ?_⟩
  cases hok : ok with
  | false => exact (hRd.keep (hf hok))
  | true =>
    intro hp
    obtain ⟨b, o, rfl, hb, hc⟩ := hRd hp
    refine ⟨b, o, rfl, hb, fun j hj => ?_⟩
    have hbx := hn hok hp b o rfl
    have e := hK b hb (by omega) (fun g o n c h e => by have := hg g o n c h; omega)
    have := hc j hj
    simp only [World.cell?] at this ⊢
    rw [e]
    exact this
theorem body_pos {l : List Nat} (h : 0 < (nextB l).length) : 0 < l.length := by
  rcases Nat.eq_zero_or_pos l.length with h0 | h0
  · rw [List.eq_nil_of_length_eq_zero h0] at h; simp [nextB, kindN] at h
  · exact h0
theorem body_len (l : List Nat) : (nextB l).length ≤ l.length := by
  unfold nextB
  split
  · rw [List.length_take, List.length_drop]; omega
  · simp
theorem rest_pos {l : List Nat} (h : 0 < (nextL l).length) : 0 < l.length := by
  rcases Nat.eq_zero_or_pos l.length with h0 | h0
  · rw [List.eq_nil_of_length_eq_zero h0] at h; simp [nextL, kindN] at h
  · exact h0
set_option maxHeartbeats 8000000 in
theorem plays_walk (room : Int) (x : Option Addr) (n c : Nat) (w : World) (h : IsOps w x n) (hn : n ≤ 9223372036854775807) :
    Calls Try.prog 6 #[.int .i64 room, .slice x n c] w fun e w' => e = .returned (.bool true) ∧ Below w.heap.size w w' := by
  have HX := Lib.hid h
  clear h
  by_cases hroom : room < 602 ∨ 4096 < room
  · have P1 := Lib.hid (fun X : World => new_none room X hroom)
    go_enter Try.func6, Try.ntmps6
    go_wp2_with (first
      | (go_at_call 9; with_reducible refine (P1.out _).mono ?_; rintro e w' ⟨rfl, hb⟩; obtain ⟨X1, rfl, hl1, hm1⟩ := later (w.heap.size) hb (by first | exact Nat.le_refl _ | go_size); clear hb; (try simp only [World.size_alloc, World.size_setCell, World.size_drew] at hm1))
      | (go_at_call 8; refine (fknown_any _).mono ?_; rintro e w' ⟨rfl, hb⟩; obtain ⟨X9, rfl, hl9, hm9⟩ := later (w.heap.size) hb (by first | exact Nat.le_refl _ | go_size); clear hb; (try simp only [World.size_alloc, World.size_setCell, World.size_drew] at hm9)))
    all_goals
      go_ret
      exact ⟨rfl, by repeat' (first | (with_reducible exact Below.refl _ _) | (with_reducible assumption) | (with_reducible refine Later.step ?_ ?_ _) | (with_reducible refine Below.alloc ?_ ?_ _) | (with_reducible refine Below.drew ?_) | (with_reducible refine bel_drewN ?_ _) | (with_reducible refine bel_grown ?_ (by assumption) ?_ ?_) | (with_reducible refine Below.setCell ?_ ?_ _) | go_size)⟩
  · obtain ⟨R, rfl⟩ := Int.eq_ofNat_of_zero_le (show 0 ≤ room by omega)
    have hR1 : 602 ≤ R := by omega
    have hR2 : R ≤ 4096 := by omega
    clear hroom
    have P1 := Lib.hid (fun X : World => new_any R X hR1 hR2)
    go_enter Try.func6, Try.ntmps6
    go_wp2_with fail
    refine (P1.out _).mono ?_
    rintro e w1 ⟨q, rfl, hq, hB1, hb1⟩
    have hs1 := hb1.size
    have hq1 := hB1.lt
    obtain ⟨X1, rfl⟩ : ∃ X : Later w.heap.size w, w1 = X.w := ⟨⟨w1, hb1⟩, rfl⟩
    have HB1 := Lib.hid (hB1.keep ((Below.refl _ _).alloc (Nat.le_refl _) (Obj.cells #[.int .i64 R, .slice none 0 0, .int .i64 0] 48)))
    clear hB1 hb1
    go_wp2
    go_loopw [8] (fun i wr => ∃ (k over : Nat) (l : List Nat) (A : Option Addr) (ca : Nat), (k ≤ n ∧ Hid (Buf wr q R l over) ∧ Hid (Rec wr X1.w.heap.size R A l.length ca over) ∧ Hid (Reads .u8 wr wr.heap.size A l.length (atI l)) ∧ (l.length ≤ ca ∧ ca ≤ 9223372036854775807) ∧ l.length ≤ R ∧ Hid (0 < l.length → over = 0) ∧ over ≤ 65535 ∧ Hid (Small l) ∧ Hid (0 < l.length → ∀ b o, A = some ⟨b, o, none⟩ → b ≠ q)) ∧ i = .int .i64 k ∧ Below w.heap.size w wr ∧ X1.w.heap.size < wr.heap.size) (fun i _ => n - (intOf i).toNat)
    case atStart => exact ⟨0, 0, [], none, 0, ⟨Nat.zero_le _, HB1.out, heap_alloc_new _ _, Reads.nil _ _ _ _ _, ⟨Nat.le_refl _, by omega⟩, by simp, fun _ => rfl, by omega, (fun x hx => by cases hx), (fun h => absurd h (by simp))⟩, rfl, by repeat' (first | (with_reducible exact Below.refl _ _) | (with_reducible assumption) | (with_reducible refine Later.step ?_ ?_ _) | (with_reducible refine Below.alloc ?_ ?_ _) | (with_reducible refine Below.drew ?_) | (with_reducible refine bel_drewN ?_ _) | (with_reducible refine bel_grown ?_ (by assumption) ?_ ?_) | (with_reducible refine Below.setCell ?_ ?_ _) | go_size), by go_size⟩
    case round =>
      obtain ⟨k, over, l, A, ca, ⟨hk, hB, hRec, hRd, hca, hlR, hov, ho, hsm, hne⟩, rfl, hbel, hsz⟩ := hrel
      obtain ⟨X, rfl⟩ : ∃ X : Later w.heap.size w, wr = X.w := ⟨⟨wr, hbel⟩, rfl⟩
      clear hbel
      by_cases hlt : k < n ∧ k < 200
      · obtain ⟨b, o, kd, Ao, co, m, rfl, hb, hk0, hk1, hms, hmr, hmc, hmc'⟩ := HX.out k hlt.1
        obtain ⟨r0, r1, r2, rf, rlt⟩ := hRec.out.cells
        by_cases hkd : kd = 0
        · subst hkd
          have HMR := Lib.hid hmr
          clear hmr
          have u0 : X.w.cell? ⟨b, o + k * 2 + 1, none⟩ = some (.slice Ao m.length co) := by go_simp
          have q1 : (0 : Int) ≤ (k : Int) := by omega
          have q2 : (k : Int) < (n : Int) := by omega
          have HHX := Lib.hid (fun (Y : World) (hY : Below X.w.heap.size X.w Y) => ((HMR.out.keep X.is).more X.is.size).keep hY |>.more hY.size)
          have PJ := Lib.hid (fun (Y : World) (hY : Below X.w.heap.size X.w Y) => rfeed_any R over A ca l Ao co m Y ((hRd.out.keep hY).more hY.size) hca (HHX.out Y hY) hmc hmc' (by omega) hR2 hlR)
          have HS := Lib.hid hms
          clear hms
          go_wp2_with fail
          go_region_held3 (fun w' => w'.cell? ⟨X1.w.heap.size, 0, none⟩ = some (.int .i64 R) ∧ w'.cell? ⟨X1.w.heap.size, 1, none⟩ = some (.slice A l.length ca) ∧ w'.cell? ⟨X1.w.heap.size, 2, none⟩ = some (.int .i64 over) ∧ w'.cell? ⟨b, o + k * 2 + 1, none⟩ = some (.slice Ao m.length co)) (first | go_keep | (refine ⟨?_, ?_, ?_, ?_⟩ <;> go_simp))
            (first
              | (go_at_call 18; with_reducible refine (PJ.out _ ((Below.refl _ _).drew)).mono ?_; intro e w2 hrf; unfold RFeed at hrf; obtain ⟨A2, c2, rfl, hA2, hc2, hb2, hf1, hf2⟩ := hrf; have hs2 := hb2.size; simp only [World.size_drew, World.size_alloc] at hs2; obtain ⟨X2, rfl⟩ : ∃ Z : Later X.w.heap.size X.w, w2 = Z.w := ⟨⟨w2, ((Below.refl X.w.heap.size X.w).drew).trans (hb2.mono (Nat.le_refl _))⟩, rfl⟩; have HA2 := Lib.hid hA2; have HF1 := Lib.hid hf1; have HF2 := Lib.hid hf2; clear hA2 hf1 hf2 hb2; have t0 : X2.w.cell? ⟨X1.w.heap.size, 0, none⟩ = some (.int .i64 R) := (by go_simp); have t1 : X2.w.cell? ⟨X1.w.heap.size, 1, none⟩ = some (.slice A l.length ca) := (by go_simp); have t2 : X2.w.cell? ⟨X1.w.heap.size, 2, none⟩ = some (.int .i64 over) := (by go_simp); have t3 : X2.w.cell? ⟨b, o + k * 2 + 1, none⟩ = some (.slice Ao m.length co) := (by go_simp))
              | (go_at_call 18; with_reducible refine (PJ.out _ (((Below.refl _ _).alloc (Nat.le_refl _) _).drew)).mono ?_; intro e w2 hrf; unfold RFeed at hrf; obtain ⟨A2, c2, rfl, hA2, hc2, hb2, hf1, hf2⟩ := hrf; have hs2 := hb2.size; simp only [World.size_drew, World.size_alloc] at hs2; obtain ⟨X2, rfl⟩ : ∃ Z : Later (X.w.heap.size + 1) (X.w.alloc (Obj.cells #[.int .i64 0, .slice none 0 0, .int .i64 0] 48)), w2 = Z.w := ⟨⟨w2, ((Below.refl (X.w.heap.size + 1) _).drew).trans (hb2.mono (by go_size))⟩, rfl⟩; have HA2 := Lib.hid hA2; have HF1 := Lib.hid hf1; have HF2 := Lib.hid hf2; clear hA2 hf1 hf2 hb2; have t0 : X2.w.cell? ⟨X1.w.heap.size, 0, none⟩ = some (.int .i64 R) := (by go_simp); have t1 : X2.w.cell? ⟨X1.w.heap.size, 1, none⟩ = some (.slice A l.length ca) := (by go_simp); have t2 : X2.w.cell? ⟨X1.w.heap.size, 2, none⟩ = some (.int .i64 over) := (by go_simp); have t3 : X2.w.cell? ⟨b, o + k * 2 + 1, none⟩ = some (.slice Ao m.length co) := (by go_simp)))
          all_goals
            rename_i hHd
            clear hHd
          all_goals first
            | (have hRc : Rec (X2.w.alloc (Obj.cells #[.int .i64 R, .slice A2 (fedL R over l m).length c2, .int .i64 (fedO R over l m : Nat)] 48)) X2.w.heap.size R A2 (fedL R over l m).length c2 (fedO R over l m) := heap_alloc_new _ _
               have hD := (HA2.out.keep ((Below.refl _ _).alloc (Nat.le_refl _) (Obj.cells #[.int .i64 R, .slice A2 (fedL R over l m).length c2, .int .i64 (fedO R over l m : Nat)] 48))).more (show _ ≤ (X2.w.alloc (Obj.cells #[.int .i64 R, .slice A2 (fedL R over l m).length c2, .int .i64 (fedO R over l m : Nat)] 48)).heap.size by go_size)
               have hlz : X.w.heap.size ≤ X.w.drew.heap.size := by go_size
               have hp9 : X.w.heap.size ≤ X2.w.heap.size := by go_size
               obtain ⟨Y, hY⟩ : ∃ Y : Later X.w.heap.size X.w, X2.w.alloc (Obj.cells #[.int .i64 R, .slice A2 (fedL R over l m).length c2, .int .i64 (fedO R over l m : Nat)] 48) = Y.w := ⟨⟨X2.w.alloc (Obj.cells #[.int .i64 R, .slice A2 (fedL R over l m).length c2, .int .i64 (fedO R over l m : Nat)] 48), by repeat' (first | (with_reducible exact Below.refl _ _) | (with_reducible assumption) | (with_reducible refine Later.step ?_ ?_ _) | (with_reducible refine Below.alloc ?_ ?_ _) | (with_reducible refine Below.drew ?_) | (with_reducible refine bel_drewN ?_ _) | (with_reducible refine bel_grown ?_ (by assumption) ?_ ?_) | (with_reducible refine Below.setCell ?_ ?_ _) | go_size)⟩, rfl⟩
               rw [hY] at hRc hD ⊢)
            | (have h00 : Rec (X.w.alloc (Obj.cells #[.int .i64 0, .slice none 0 0, .int .i64 0] 48)) X.w.heap.size 0 none 0 0 0 := heap_alloc_new _ _
               have h0 : Rec X2.w X.w.heap.size 0 none 0 0 0 := (X2.is.block _ (by omega)).trans h00
               have hRc := Rec.set2 (over' := fedO R over l m) (Rec.set1 (A' := A2) (n' := (fedL R over l m).length) (c' := c2) (Rec.set0' (room := R) h0))
               have hD := ((HA2.out.set_other h0.cells.1 (fun _ h => by cases h) (.int .i64 R)).set_other (Rec.set0' (room := R) h0).cells.2.1 (fun _ h => by cases h) (.slice A2 (fedL R over l m).length c2)).set_other (Rec.set1 (A' := A2) (n' := (fedL R over l m).length) (c' := c2) (Rec.set0' (room := R) h0)).cells.2.2.1 (fun _ h => by cases h) (.int .i64 (fedO R over l m : Nat))
               have hD := hD.more (show _ ≤ (((X2.w.setCell ⟨X.w.heap.size, 0, none⟩ (.int .i64 R)).setCell ⟨X.w.heap.size, 1, none⟩ (.slice A2 (fedL R over l m).length c2)).setCell ⟨X.w.heap.size, 2, none⟩ (.int .i64 (fedO R over l m : Nat))).heap.size by go_size)
               have hlz : X.w.heap.size ≤ (X.w.alloc (Obj.cells #[.int .i64 0, .slice none 0 0, .int .i64 0] 48)).drew.heap.size := by go_size
               have hp9 : X.w.heap.size ≤ X.w.heap.size := Nat.le_refl _
               obtain ⟨Y, hY⟩ : ∃ Y : Later X.w.heap.size X.w, (((X2.w.setCell ⟨X.w.heap.size, 0, none⟩ (.int .i64 R)).setCell ⟨X.w.heap.size, 1, none⟩ (.slice A2 (fedL R over l m).length c2)).setCell ⟨X.w.heap.size, 2, none⟩ (.int .i64 (fedO R over l m : Nat))) = Y.w := ⟨⟨(((X2.w.setCell ⟨X.w.heap.size, 0, none⟩ (.int .i64 R)).setCell ⟨X.w.heap.size, 1, none⟩ (.slice A2 (fedL R over l m).length c2)).setCell ⟨X.w.heap.size, 2, none⟩ (.int .i64 (fedO R over l m : Nat))), by repeat' (first | (with_reducible exact Below.refl _ _) | (with_reducible assumption) | (with_reducible refine Later.step ?_ ?_ _) | (with_reducible refine Below.alloc ?_ ?_ _) | (with_reducible refine Below.drew ?_) | (with_reducible refine bel_drewN ?_ _) | (with_reducible refine bel_grown ?_ (by assumption) ?_ ?_) | (with_reducible refine Below.setCell ?_ ?_ _) | go_size)⟩, rfl⟩
               rw [hY] at hRc hD ⊢)
          all_goals
            have HN := Lib.hid (fun (hok : fedOk R over l m = true) (hp : 0 < (fedL R over l m).length) b o e => Nat.le_trans hlz (HF1.out hok hp b o e))
            have HRC := Lib.hid hRc
            have HD := Lib.hid hD
            clear hRc hD HF1 hY
            have u1 : Y.w.cell? ⟨b, o + k * 2 + 1, none⟩ = some (.slice Ao m.length co) := by go_simp
            go_wp2_with fail
            refine (feed_more q R over l m Ao co _ (hB.out.keep Y.is) (HHX.out _ Y.is) hmc (by omega) hR2 hlR (by omega)).mono ?_
            rintro e w4 ⟨rfl, hb4, hs4, hB4, hk4, hf4⟩
            obtain ⟨hR9, hR1', hD4⟩ := fed_kept hB.out hRec.out Y.is HRC.out HD.out hp9 (by omega) hk4 hf4 HN.out
            have hYs := Y.is.size
            have hbw : Below w.heap.size w w4 := (X.is.trans (Y.is.mono X.is.size)).trans (hb4.mono hq)
            obtain ⟨X4, rfl⟩ : ∃ Z : Later w.heap.size w, w4 = Z.w := ⟨⟨w4, hbw⟩, rfl⟩
            obtain ⟨v0, v1, v2, _, _⟩ := hR9.cells
            have D4 := Lib.hid (hD4.more (show _ ≤ X4.w.heap.size by omega))
            have R9 := Lib.hid hR9
            have R1 := Lib.hid hR1'
            have B4 := Lib.hid hB4
            have hneq : 0 < (fedL R over l m).length → ∀ b o, A2 = some ⟨b, o, none⟩ → b ≠ q := fun hp b o e => by
              by_cases hok : fedOk R over l m = true
              · have := HN.out hok hp b o e
                omega
              · have hokf : fedOk R over l m = false := by simpa using hok
                have hl0 : fedL R over l m = l := by unfold fedL; rw [if_neg hok]
                rw [hl0] at hp
                exact hne.out hp b o ((HF2.out hokf).symm.trans e)
            clear hR9 hR1' hD4 hk4 hf4 hbw hB4 hb4
            have hRq : X1.w.heap.size ≠ q := by omega
            obtain ⟨s0, s1, s2, _, _⟩ := R9.out.cells
            obtain ⟨p0, p1, p2, pf, plt⟩ := R1.out.cells
            have pf0 := pf 0
            have pf1 := pf 1
            have pf2 := pf 2
            clear pf
            have HW := Lib.hid (((B4.out.set_rec R1.out hRq 0 (.int .i64 R)).set_rec R1.out.set0 hRq 1 (.slice A2 (fedL R over l m).length c2)).set_rec (Rec.set1 (A' := A2) (n' := (fedL R over l m).length) (c' := c2) R1.out.set0) hRq 2 (.int .i64 (fedO R over l m : Nat)))
            have HRW := Lib.hid (Rec.set2 (over' := fedO R over l m) (Rec.set1 (A' := A2) (n' := (fedL R over l m).length) (c' := c2) R1.out.set0))
            have HDW := Lib.hid (((D4.out.set_other p0 (fun _ h => by cases h) (.int .i64 R)).set_other R1.out.set0.cells.2.1 (fun _ h => by cases h) (.slice A2 (fedL R over l m).length c2)).set_other (Rec.set1 (A' := A2) (n' := (fedL R over l m).length) (c' := c2) R1.out.set0).cells.2.2.1 (fun _ h => by cases h) (.int .i64 (fedO R over l m : Nat)))
            have HNX := Lib.hid (fed_facts hlR hov.out ho hsm.out HS.out)
            go_wp2_with fail
            refine (fsame_any q R (fedO R over l m) (fedL R over l m) A2 c2 _ HW.out (HDW.out.more (by first | (simp; done) | (simp; omega))) hc2 HNX.out.2.2.2 HNX.out.2.1 (by have := HNX.out.2.2.1; omega) hR2 HNX.out.1).mono ?_
            rintro e w7 ⟨rfl, hb7⟩
            have hs7 : X4.w.heap.size ≤ w7.heap.size := by simpa using hb7.size
            have hbuf7 := HW.out.keep hb7
            have hrec7 := rec_below HRW.out hb7
            have hrd7' := ((HDW.out.more (by first | (simp; done) | (simp; omega))).keep hb7).more hb7.size
            have hbel7 : Below w.heap.size w w7 := Below.trans (b := ((X4.w.setCell ⟨X1.w.heap.size, 0, none⟩ (.int .i64 R)).setCell ⟨X1.w.heap.size, 1, none⟩ (.slice A2 (fedL R over l m).length c2)).setCell ⟨X1.w.heap.size, 2, none⟩ (.int .i64 (fedO R over l m : Nat))) (by repeat' (first | (with_reducible exact Below.refl _ _) | (with_reducible assumption) | (with_reducible refine Later.step ?_ ?_ _) | (with_reducible refine Below.alloc ?_ ?_ _) | (with_reducible refine Below.drew ?_) | (with_reducible refine bel_drewN ?_ _) | (with_reducible refine bel_grown ?_ (by assumption) ?_ ?_) | (with_reducible refine Below.setCell ?_ ?_ _) | go_size)) (hb7.mono (by first | (simp; done) | (simp; omega)))
            have hn7 : 0 < (fedL R over l m).length → ∀ b o, A2 = some ⟨b, o, none⟩ → b ≠ q := hneq
            obtain ⟨X7, rfl⟩ : ∃ Y : Later w.heap.size w, w7 = Y.w := ⟨⟨w7, hbel7⟩, rfl⟩
            have U7 := Lib.hid hbuf7
            have V7 := Lib.hid hrec7
            have D7 := Lib.hid hrd7'
            clear hb7 hbuf7 hrec7 hrd7' hbel7
            have hlast := HNX.out.1
            by_cases hz : 0 < (fedL R over l m).length
            · have PW := Lib.hid (fun (Y : World) (hY : Below X7.w.heap.size X7.w Y) => waiting_any q R (fedO R over l m) (fedL R over l m) Y (U7.out.keep hY) (by omega))
              have po := fun (Y : World) (hY : Below X7.w.heap.size X7.w Y) => over_any q R (fedO R over l m) (fedL R over l m) Y (U7.out.keep hY) (by have := HNX.out.2.2.1; omega)
              have e0 := HNX.out.2.1 hz
              rw [e0] at po
              clear e0
              have PO := Lib.hid po
              clear po
              go_wp2_with (first
                | (go_at_call 17; refine (PW.out _ (by repeat' (first | (with_reducible exact Below.refl _ _) | (with_reducible assumption) | (with_reducible refine Later.step ?_ ?_ _) | (with_reducible refine Below.alloc ?_ ?_ _) | (with_reducible refine Below.drew ?_) | (with_reducible refine bel_drewN ?_ _) | (with_reducible refine bel_grown ?_ (by assumption) ?_ ?_) | (with_reducible refine Below.setCell ?_ ?_ _) | go_size))).mono ?_; rintro e w' ⟨rfl, hb⟩; obtain ⟨X8, rfl, hl8, hm8⟩ := later (X7.w.heap.size) hb (by first | exact Nat.le_refl _ | go_size); clear hb; (try simp only [World.size_alloc, World.size_setCell, World.size_drew] at hm8))
                | (go_at_call 21; refine (PO.out _ (by repeat' (first | (with_reducible exact Below.refl _ _) | (with_reducible assumption) | (with_reducible refine Later.step ?_ ?_ _) | (with_reducible refine Below.alloc ?_ ?_ _) | (with_reducible refine Below.drew ?_) | (with_reducible refine bel_drewN ?_ _) | (with_reducible refine bel_grown ?_ (by assumption) ?_ ?_) | (with_reducible refine Below.setCell ?_ ?_ _) | go_size))).mono ?_; rintro e w' ⟨rfl, hb⟩; obtain ⟨X8, rfl, hl8, hm8⟩ := later (X7.w.heap.size) hb (by first | exact Nat.le_refl _ | go_size); clear hb; (try simp only [World.size_alloc, World.size_setCell, World.size_drew] at hm8)))
              go_roundw
              case rel =>
                have hbb : Below X7.w.heap.size X7.w X8.w := by repeat' (first | (with_reducible exact Below.refl _ _) | (with_reducible assumption) | (with_reducible refine Later.step ?_ ?_ _) | (with_reducible refine Below.alloc ?_ ?_ _) | (with_reducible refine Below.drew ?_) | (with_reducible refine bel_drewN ?_ _) | (with_reducible refine bel_grown ?_ (by assumption) ?_ ?_) | (with_reducible refine Below.setCell ?_ ?_ _) | go_size)
                exact ⟨k + 1, fedO R over l m, fedL R over l m, A2, c2, ⟨by omega, U7.out.keep hbb, rec_below V7.out hbb, (D7.out.keep hbb).more hbb.size, hc2, HNX.out.1, HNX.out.2.1, HNX.out.2.2.1, HNX.out.2.2.2, hn7⟩, by go_num, by repeat' (first | (with_reducible exact Below.refl _ _) | (with_reducible assumption) | (with_reducible refine Later.step ?_ ?_ _) | (with_reducible refine Below.alloc ?_ ?_ _) | (with_reducible refine Below.drew ?_) | (with_reducible refine bel_drewN ?_ _) | (with_reducible refine bel_grown ?_ (by assumption) ?_ ?_) | (with_reducible refine Below.setCell ?_ ?_ _) | go_size), by go_size⟩
              case measure => simp [intOf]; omega
            · have hz0 : (fedL R over l m).length = 0 := by omega
              have HZ := Lib.hid hz0
              clear hz0
              have PW := Lib.hid (fun (Y : World) (hY : Below X7.w.heap.size X7.w Y) => waiting_any q R (fedO R over l m) (fedL R over l m) Y (U7.out.keep hY) (by omega))
              have po := fun (Y : World) (hY : Below X7.w.heap.size X7.w Y) => over_any q R (fedO R over l m) (fedL R over l m) Y (U7.out.keep hY) (by have := HNX.out.2.2.1; omega)
              have PO := Lib.hid po
              clear po
              go_wp2_with (first
                | (go_at_call 17; refine (PW.out _ (by repeat' (first | (with_reducible exact Below.refl _ _) | (with_reducible assumption) | (with_reducible refine Later.step ?_ ?_ _) | (with_reducible refine Below.alloc ?_ ?_ _) | (with_reducible refine Below.drew ?_) | (with_reducible refine bel_drewN ?_ _) | (with_reducible refine bel_grown ?_ (by assumption) ?_ ?_) | (with_reducible refine Below.setCell ?_ ?_ _) | go_size))).mono ?_; rintro e w' ⟨rfl, hb⟩; obtain ⟨X8, rfl, hl8, hm8⟩ := later (X7.w.heap.size) hb (by first | exact Nat.le_refl _ | go_size); clear hb; (try simp only [World.size_alloc, World.size_setCell, World.size_drew] at hm8))
                | (go_at_call 21; refine (PO.out _ (by repeat' (first | (with_reducible exact Below.refl _ _) | (with_reducible assumption) | (with_reducible refine Later.step ?_ ?_ _) | (with_reducible refine Below.alloc ?_ ?_ _) | (with_reducible refine Below.drew ?_) | (with_reducible refine bel_drewN ?_ _) | (with_reducible refine bel_grown ?_ (by assumption) ?_ ?_) | (with_reducible refine Below.setCell ?_ ?_ _) | go_size))).mono ?_; rintro e w' ⟨rfl, hb⟩; obtain ⟨X8, rfl, hl8, hm8⟩ := later (X7.w.heap.size) hb (by first | exact Nat.le_refl _ | go_size); clear hb; (try simp only [World.size_alloc, World.size_setCell, World.size_drew] at hm8)))
              go_roundw
              case rel =>
                have hbb : Below X7.w.heap.size X7.w X8.w := by repeat' (first | (with_reducible exact Below.refl _ _) | (with_reducible assumption) | (with_reducible refine Later.step ?_ ?_ _) | (with_reducible refine Below.alloc ?_ ?_ _) | (with_reducible refine Below.drew ?_) | (with_reducible refine bel_drewN ?_ _) | (with_reducible refine bel_grown ?_ (by assumption) ?_ ?_) | (with_reducible refine Below.setCell ?_ ?_ _) | go_size)
                exact ⟨k + 1, fedO R over l m, fedL R over l m, A2, c2, ⟨by omega, U7.out.keep hbb, rec_below V7.out hbb, (D7.out.keep hbb).more hbb.size, hc2, HNX.out.1, HNX.out.2.1, HNX.out.2.2.1, HNX.out.2.2.2, hn7⟩, by go_num, by repeat' (first | (with_reducible exact Below.refl _ _) | (with_reducible assumption) | (with_reducible refine Later.step ?_ ?_ _) | (with_reducible refine Below.alloc ?_ ?_ _) | (with_reducible refine Below.drew ?_) | (with_reducible refine bel_drewN ?_ _) | (with_reducible refine bel_grown ?_ (by assumption) ?_ ?_) | (with_reducible refine Below.setCell ?_ ?_ _) | go_size), by go_size⟩
              case measure => simp [intOf]; omega
        · have hkd' : (kd == 0) = false := by rw [beq_eq_false_iff_ne]; exact hkd
          have HMR := Lib.hid hmr
          clear hmr hkd
          go_wp2_with fail
          refine (rnext_any R over A ca l X.w hRd.out hca hsm.out hov.out (by omega) (by omega)).mono ?_
          rintro e w2 ⟨A2, c2, B2, d2, rfl, hA2, hB2, hc2, hb2, hf1, hf2⟩
          have hs2 := hb2.size
          have hBk := hB.out.keep hb2
          have hRk := rec_below hRec.out hb2
          obtain ⟨X2, rfl⟩ : ∃ Y : Later X.w.heap.size X.w, w2 = Y.w := ⟨⟨w2, hb2⟩, rfl⟩
          have HA2 := Lib.hid hA2
          have HB2 := Lib.hid hB2
          have HBK := Lib.hid hBk
          have HRK := Lib.hid hRk
          have HF1 := Lib.hid hf1
          have HF2 := Lib.hid hf2
          clear hA2 hB2 hb2 hBk hRk hf1 hf2
          go_wp2_with fail
          refine (next_any q R over l _ (HBK.out.keep ((Below.refl _ _).alloc (Nat.le_refl _) _)) hsm.out (by omega)).mono ?_
          rintro e w4 ⟨⟨A4, c4, rfl, own4⟩, hB4, hb4, hs4, hg4⟩
          have hs4' : X2.w.heap.size + 1 ≤ w4.heap.size := by simpa using hs4
          have hal : ∀ o, Below X2.w.heap.size X2.w (X2.w.alloc o) := fun o => (Below.refl _ _).alloc (Nat.le_refl _) o
          have HR1 := Lib.hid (rec_grown (rec_below HRK.out (hal _)) hg4 (by omega))
          have HR2 := Lib.hid (rec_grown (b := X2.w.heap.size) (show Rec (X2.w.alloc (Obj.cells #[.int .i64 R, .slice A2 (nextL l).length c2, .int .i64 (nextO l over : Nat)] 48)) X2.w.heap.size R A2 (nextL l).length c2 (nextO l over) from heap_alloc_new _ _) hg4 (by omega))
          have hneq : ∀ A', From A A' → 0 < l.length → ∀ b o, A' = some ⟨b, o, none⟩ → b ≠ q := fun A' hf hp b o e => by
            obtain ⟨o2, e2⟩ := hf b o e
            exact hne.out hp b o2 e2
          have HA4 := Lib.hid (reads_grown (HA2.out.keep (hal _)) hg4 (by simp) (fun hp => hneq _ HF1.out (rest_pos hp)))
          have HC4 := Lib.hid (reads_grown (HB2.out.keep (hal _)) hg4 (by simp) (fun hp => hneq _ HF2.out (body_pos hp)))
          have HD4 := Lib.hid (Reads.own own4)
          have HB4 := Lib.hid hB4
          have hbw : Below w.heap.size w w4 := ((X.is.trans (X2.is.mono X.is.size)).trans ((hal _).mono (Nat.le_trans X.is.size hs2))).trans (hb4.mono hq)
          obtain ⟨X4, rfl⟩ : ∃ Y : Later w.heap.size w, w4 = Y.w := ⟨⟨w4, hbw⟩, rfl⟩
          have hbl := body_len l
          clear own4 hB4 hb4 hs4 hg4 hal hbw
          go_wp2_with fail
          refine (lsame_any A4 B2 (nextB l) (nextB l) c4 d2 _ HD4.out (HC4.out.more (by omega)) (by omega) (by omega)).mono ?_
          rw [decide_eq_true (rfl : nextB l = nextB l)]
          rintro e w5 ⟨rfl, hb5⟩
          have hs5 := hb5.size
          have R1 := rec_below HR1.out hb5
          have R2 := rec_below HR2.out hb5
          have hbuf5 := HB4.out.keep hb5
          have hrd5 := (HA4.out.more (show _ ≤ X4.w.heap.size by omega)).keep hb5
          obtain ⟨X5, rfl⟩ : ∃ Y : Later w.heap.size w, w5 = Y.w := ⟨⟨w5, X4.is.trans (hb5.mono X4.is.size)⟩, rfl⟩
          obtain ⟨s0, s1, s2, _, _⟩ := R2.cells
          obtain ⟨p0, p1, p2, pf, plt⟩ := R1.cells
          have pf0 := pf 0
          have pf1 := pf 1
          have pf2 := pf 2
          have hRq : X1.w.heap.size ≠ q := by omega
          have HW := Lib.hid (((hbuf5.set_rec R1 hRq 0 (.int .i64 R)).set_rec R1.set0 hRq 1 (.slice A2 (nextL l).length c2)).set_rec (Rec.set1 (A' := A2) (n' := (nextL l).length) (c' := c2) R1.set0) hRq 2 (.int .i64 (nextO l over : Nat)))
          have HRW := Lib.hid (Rec.set2 (over' := nextO l over) (Rec.set1 (A' := A2) (n' := (nextL l).length) (c' := c2) R1.set0))
          have HDW := Lib.hid (((hrd5.set_other p0 (fun _ h => by cases h) (.int .i64 R)).set_other R1.set0.cells.2.1 (fun _ h => by cases h) (.slice A2 (nextL l).length c2)).set_other (Rec.set1 (A' := A2) (n' := (nextL l).length) (c' := c2) R1.set0).cells.2.2.1 (fun _ h => by cases h) (.int .i64 (nextO l over : Nat)))
          have HNX := Lib.hid (next_facts hlR hov.out ho hsm.out)
          clear R1 R2 hbuf5 hrd5 hb5 pf
          go_wp2_with fail
          refine (fsame_any q R (nextO l over) (nextL l) A2 c2 _ HW.out (HDW.out.more (by simp; omega)) hc2 HNX.out.2.2.2 HNX.out.2.1 (by have := HNX.out.2.2.1; omega) hR2 HNX.out.1).mono ?_
          rintro e w7 ⟨rfl, hb7⟩
          have hs7 : X5.w.heap.size ≤ w7.heap.size := by simpa using hb7.size
          have hbuf7 := HW.out.keep hb7
          have hrec7 := rec_below HRW.out hb7
          have hrd7' := ((HDW.out.more (by simp; omega)).keep hb7).more hb7.size
          have hbel7 : Below w.heap.size w w7 := Below.trans (b := ((X5.w.setCell ⟨X1.w.heap.size, 0, none⟩ (.int .i64 R)).setCell ⟨X1.w.heap.size, 1, none⟩ (.slice A2 (nextL l).length c2)).setCell ⟨X1.w.heap.size, 2, none⟩ (.int .i64 (nextO l over : Nat))) (by repeat' (first | (with_reducible exact Below.refl _ _) | (with_reducible assumption) | (with_reducible refine Later.step ?_ ?_ _) | (with_reducible refine Below.alloc ?_ ?_ _) | (with_reducible refine Below.drew ?_) | (with_reducible refine bel_drewN ?_ _) | (with_reducible refine bel_grown ?_ (by assumption) ?_ ?_) | (with_reducible refine Below.setCell ?_ ?_ _) | go_size)) (hb7.mono (by simp; omega))
          have hn7 : 0 < (nextL l).length → ∀ b o, A2 = some ⟨b, o, none⟩ → b ≠ q := fun hp => hneq _ HF1.out (rest_pos hp)
          obtain ⟨X7, rfl⟩ : ∃ Y : Later w.heap.size w, w7 = Y.w := ⟨⟨w7, hbel7⟩, rfl⟩
          have U7 := Lib.hid hbuf7
          have V7 := Lib.hid hrec7
          have D7 := Lib.hid hrd7'
          clear hb7 hbuf7 hrec7 hrd7' hbel7
          have hlast := HNX.out.1
          by_cases hz : 0 < (nextL l).length
          · have PW := Lib.hid (fun (Y : World) (hY : Below X7.w.heap.size X7.w Y) => waiting_any q R (nextO l over) (nextL l) Y (U7.out.keep hY) (by omega))
            have po := fun (Y : World) (hY : Below X7.w.heap.size X7.w Y) => over_any q R (nextO l over) (nextL l) Y (U7.out.keep hY) (by have := HNX.out.2.2.1; omega)
            have e0 := HNX.out.2.1 hz
            rw [e0] at po
            clear e0
            have PO := Lib.hid po
            clear po
            go_wp2_with (first
              | (go_at_call 17; refine (PW.out _ (by repeat' (first | (with_reducible exact Below.refl _ _) | (with_reducible assumption) | (with_reducible refine Later.step ?_ ?_ _) | (with_reducible refine Below.alloc ?_ ?_ _) | (with_reducible refine Below.drew ?_) | (with_reducible refine bel_drewN ?_ _) | (with_reducible refine bel_grown ?_ (by assumption) ?_ ?_) | (with_reducible refine Below.setCell ?_ ?_ _) | go_size))).mono ?_; rintro e w' ⟨rfl, hb⟩; obtain ⟨X8, rfl, hl8, hm8⟩ := later (X7.w.heap.size) hb (by first | exact Nat.le_refl _ | go_size); clear hb; (try simp only [World.size_alloc, World.size_setCell, World.size_drew] at hm8))
              | (go_at_call 21; refine (PO.out _ (by repeat' (first | (with_reducible exact Below.refl _ _) | (with_reducible assumption) | (with_reducible refine Later.step ?_ ?_ _) | (with_reducible refine Below.alloc ?_ ?_ _) | (with_reducible refine Below.drew ?_) | (with_reducible refine bel_drewN ?_ _) | (with_reducible refine bel_grown ?_ (by assumption) ?_ ?_) | (with_reducible refine Below.setCell ?_ ?_ _) | go_size))).mono ?_; rintro e w' ⟨rfl, hb⟩; obtain ⟨X8, rfl, hl8, hm8⟩ := later (X7.w.heap.size) hb (by first | exact Nat.le_refl _ | go_size); clear hb; (try simp only [World.size_alloc, World.size_setCell, World.size_drew] at hm8)))
            go_roundw
            case rel =>
              have hbb : Below X7.w.heap.size X7.w X8.w := by repeat' (first | (with_reducible exact Below.refl _ _) | (with_reducible assumption) | (with_reducible refine Later.step ?_ ?_ _) | (with_reducible refine Below.alloc ?_ ?_ _) | (with_reducible refine Below.drew ?_) | (with_reducible refine bel_drewN ?_ _) | (with_reducible refine bel_grown ?_ (by assumption) ?_ ?_) | (with_reducible refine Below.setCell ?_ ?_ _) | go_size)
              exact ⟨k + 1, nextO l over, nextL l, A2, c2, ⟨by omega, U7.out.keep hbb, rec_below V7.out hbb, (D7.out.keep hbb).more hbb.size, hc2, HNX.out.1, HNX.out.2.1, HNX.out.2.2.1, HNX.out.2.2.2, hn7⟩, by go_num, by repeat' (first | (with_reducible exact Below.refl _ _) | (with_reducible assumption) | (with_reducible refine Later.step ?_ ?_ _) | (with_reducible refine Below.alloc ?_ ?_ _) | (with_reducible refine Below.drew ?_) | (with_reducible refine bel_drewN ?_ _) | (with_reducible refine bel_grown ?_ (by assumption) ?_ ?_) | (with_reducible refine Below.setCell ?_ ?_ _) | go_size), by go_size⟩
            case measure => simp [intOf]; omega
          · have hz0 : (nextL l).length = 0 := by omega
            have HZ := Lib.hid hz0
            clear hz0
            have PW := Lib.hid (fun (Y : World) (hY : Below X7.w.heap.size X7.w Y) => waiting_any q R (nextO l over) (nextL l) Y (U7.out.keep hY) (by omega))
            have po := fun (Y : World) (hY : Below X7.w.heap.size X7.w Y) => over_any q R (nextO l over) (nextL l) Y (U7.out.keep hY) (by have := HNX.out.2.2.1; omega)
            have PO := Lib.hid po
            clear po
            go_wp2_with (first
              | (go_at_call 17; refine (PW.out _ (by repeat' (first | (with_reducible exact Below.refl _ _) | (with_reducible assumption) | (with_reducible refine Later.step ?_ ?_ _) | (with_reducible refine Below.alloc ?_ ?_ _) | (with_reducible refine Below.drew ?_) | (with_reducible refine bel_drewN ?_ _) | (with_reducible refine bel_grown ?_ (by assumption) ?_ ?_) | (with_reducible refine Below.setCell ?_ ?_ _) | go_size))).mono ?_; rintro e w' ⟨rfl, hb⟩; obtain ⟨X8, rfl, hl8, hm8⟩ := later (X7.w.heap.size) hb (by first | exact Nat.le_refl _ | go_size); clear hb; (try simp only [World.size_alloc, World.size_setCell, World.size_drew] at hm8))
              | (go_at_call 21; refine (PO.out _ (by repeat' (first | (with_reducible exact Below.refl _ _) | (with_reducible assumption) | (with_reducible refine Later.step ?_ ?_ _) | (with_reducible refine Below.alloc ?_ ?_ _) | (with_reducible refine Below.drew ?_) | (with_reducible refine bel_drewN ?_ _) | (with_reducible refine bel_grown ?_ (by assumption) ?_ ?_) | (with_reducible refine Below.setCell ?_ ?_ _) | go_size))).mono ?_; rintro e w' ⟨rfl, hb⟩; obtain ⟨X8, rfl, hl8, hm8⟩ := later (X7.w.heap.size) hb (by first | exact Nat.le_refl _ | go_size); clear hb; (try simp only [World.size_alloc, World.size_setCell, World.size_drew] at hm8)))
            go_roundw
            case rel =>
              have hbb : Below X7.w.heap.size X7.w X8.w := by repeat' (first | (with_reducible exact Below.refl _ _) | (with_reducible assumption) | (with_reducible refine Later.step ?_ ?_ _) | (with_reducible refine Below.alloc ?_ ?_ _) | (with_reducible refine Below.drew ?_) | (with_reducible refine bel_drewN ?_ _) | (with_reducible refine bel_grown ?_ (by assumption) ?_ ?_) | (with_reducible refine Below.setCell ?_ ?_ _) | go_size)
              exact ⟨k + 1, nextO l over, nextL l, A2, c2, ⟨by omega, U7.out.keep hbb, rec_below V7.out hbb, (D7.out.keep hbb).more hbb.size, hc2, HNX.out.1, HNX.out.2.1, HNX.out.2.2.1, HNX.out.2.2.2, hn7⟩, by go_num, by repeat' (first | (with_reducible exact Below.refl _ _) | (with_reducible assumption) | (with_reducible refine Later.step ?_ ?_ _) | (with_reducible refine Below.alloc ?_ ?_ _) | (with_reducible refine Below.drew ?_) | (with_reducible refine bel_drewN ?_ _) | (with_reducible refine bel_grown ?_ (by assumption) ?_ ?_) | (with_reducible refine Below.setCell ?_ ?_ _) | go_size), by go_size⟩
            case measure => simp [intOf]; omega
      · have hstop : n ≤ k ∨ (k < n ∧ ¬ k < 200) := by omega
        rcases hstop with hs | ⟨hs, hs2⟩
        all_goals
          go_wp2_with (first
            | (go_at_call 8; refine (fknown_any _).mono ?_; rintro e w' ⟨rfl, hb⟩; obtain ⟨X9, rfl, hl9, hm9⟩ := later (X.w.heap.size) hb (by first | exact Nat.le_refl _ | go_size); clear hb; (try simp only [World.size_alloc, World.size_setCell, World.size_drew] at hm9)))
          go_ret
          exact ⟨rfl, by repeat' (first | (with_reducible exact Below.refl _ _) | (with_reducible assumption) | (with_reducible refine Later.step ?_ ?_ _) | (with_reducible refine Below.alloc ?_ ?_ _) | (with_reducible refine Below.drew ?_) | (with_reducible refine bel_drewN ?_ _) | (with_reducible refine bel_grown ?_ (by assumption) ?_ ?_) | (with_reducible refine Below.setCell ?_ ?_ _) | go_size)⟩
end Go.Proofs.Ythcecinhlhgohaa
