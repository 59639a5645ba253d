/- What is written is read as it was: the statement walked. No condition beyond what the slices read as. -/
import Derived.Test.YtdjkhcnejbinjaaRepU
import Derived.Test.YtdjkhcnejbinjaaRepV
import Derived.Test.YtdjkhcnejbinjaaRepL2
namespace Go.Proofs.Ytdjkhcnejbinjaa
open Go.RowKit
set_option linter.unusedSimpArgs false
set_option linter.unusedVariables false
set_option maxRecDepth 2000

theorem IsItems.congr {w : World} {B n size : Nat} {A : Option Addr} {f f' : Nat → Nat → Int} (h : IsItems w B A n size f) (e : ∀ i, i < n → ∀ j, j < size → f i j = f' i j) : IsItems w B A n size f' := fun hn => by
  obtain ⟨b, o, h1, h2, h3⟩ := h hn
  exact ⟨b, o, h1, h2, fun i hi j hj => by rw [← e i hi j hj]; exact h3 i hi j hj⟩
theorem padlen {l : List Nat} {n : Nat} (h : l.length ≤ n) : (padL l n).length = n := by
  unfold padL
  rw [List.length_append, List.length_replicate]
  omega
theorem dec_yes {op m s k id x y lab b0 b1 b2 b3 : Int} {ns ne : Nat} {f g : Nat → Nat → Int} {L : List Nat} {w w' : World} {e : Ending} (hf : fitsA op m s k id x y lab b0 b1 b2 b3 ns ne f g) (hk0 : 0 ≤ k) (hk1 : k ≤ 18446744073709551615)
    (hL : padL (encL op s k x y lab b0 b1 b2 b3 ns ne f g) L.length = L) (hd : DecPost op m L w e w') :
    (∃ A1 c1 A2 c2, e = .returned (.tuple #[.agg #[.int .i64 s, .int .u64 k, .int .i64 id, .int .i64 x, .int .i64 y, .int .i64 lab, .int .i64 b0, .int .i64 b1, .int .i64 b2, .int .i64 b3, .slice A1 ns c1, .slice A2 ne c2], .int .i64 0]) ∧ IsItems w' w'.heap.size A1 ns 6 f ∧ IsItems w' w'.heap.size A2 ne 4 g) ∧ Below w.heap.size w w' := by
  have hp : Pre L 0 (encL op s k x y lab b0 b1 b2 b3 ns ne f g) := by
    rw [← hL]
    exact pre_start _ _
  obtain ⟨e0, e1, rfl, e2, e3, e4, e5, e6, e7, e8, en, em, hF, hG⟩ := read_back hf hk0 hk1 hp
  obtain ⟨hd, hb⟩ := hd
  have hfd : fitsD op m L := by
    unfold fitsD
    rw [e0, e1, e2, e3, e4, e5, e6, e7, e8, en, em]
    exact fitsA_congr hF hG hf
  have hed : padL (encD op m L) L.length = L := by
    unfold encD
    rw [e0, e1, e2, e3, e4, e5, e6, e7, e8, en, em, encL_congr hF hG]
    exact hL
  rw [if_pos ⟨hfd, hed⟩, e0, e1, e2, e3, e4, e5, e6, e7, e8, en, em] at hd
  obtain ⟨A1, c1, A2, c2, he, hI1, hI2⟩ := hd
  exact ⟨⟨A1, c1, A2, c2, he, hI1.congr hF, hI2.congr hG⟩, hb⟩
theorem dec_no {op m s k id x y lab b0 b1 b2 b3 : Int} {ns ne : Nat} {f g : Nat → Nat → Int} {L : List Nat} {w w' : World} {e : Ending} (hf : fitsA op m s k id x y lab b0 b1 b2 b3 ns ne f g) (hk0 : 0 ≤ k) (hk1 : k ≤ 18446744073709551615)
    (hp : Pre L 0 (encL op s k x y lab b0 b1 b2 b3 ns ne f g)) (hL : ¬ padL (encL op s k x y lab b0 b1 b2 b3 ns ne f g) L.length = L) (hd : DecPost op m L w e w') :
    e = .returned (.tuple #[.agg #[.int .i64 0, .int .u64 0, .int .i64 0, .int .i64 0, .int .i64 0, .int .i64 0, .int .i64 0, .int .i64 0, .int .i64 0, .int .i64 0, .slice none 0 0, .slice none 0 0], .int .i64 33]) ∧ Below w.heap.size w w' := by
  obtain ⟨e0, e1, rfl, e2, e3, e4, e5, e6, e7, e8, en, em, hF, hG⟩ := read_back hf hk0 hk1 hp
  obtain ⟨hd, hb⟩ := hd
  have hed : ¬ padL (encD op m L) L.length = L := by
    unfold encD
    rw [e0, e1, e2, e3, e4, e5, e6, e7, e8, en, em, encL_congr hF hG]
    exact hL
  rw [if_neg (fun h => hed h.2)] at hd
  exact ⟨hd, hb⟩
set_option maxHeartbeats 8000000 in
theorem back_law (op m s k id x y lab b0 b1 b2 b3 : Int) (A1 A2 : Option Addr) (ns ne c1 c2 : Nat) (f g : Nat → Nat → Int) (w : World) (h1 : IsItems w w.heap.size A1 ns 6 f) (h2 : IsItems w w.heap.size A2 ne 4 g) (hn1 : ns ≤ 9223372036854775807) (hn2 : ne ≤ 9223372036854775807)
    (hk0 : 0 ≤ k) (hk1 : k ≤ 18446744073709551615) :
    Calls Try.prog 6 #[.int .i64 op, .int .i64 m, .agg #[.int .i64 s, .int .u64 k, .int .i64 id, .int .i64 x, .int .i64 y, .int .i64 lab, .int .i64 b0, .int .i64 b1, .int .i64 b2, .int .i64 b3, .slice A1 ns c1, .slice A2 ne c2]] w fun e w' => e = .returned (.bool true) ∧ Below w.heap.size w w' := by
  by_cases hf : fitsA op m s k id x y lab b0 b1 b2 b3 ns ne f g
  · have p3 := fun (Y : World) (hY : Below w.heap.size w Y) => encode_cap op m s k id x y lab b0 b1 b2 b3 A1 A2 ns ne c1 c2 f g Y ((h1.keep hY).more hY.size) ((h2.keep hY).more hY.size) hn1 hn2 hk0 hk1 hf
    have hlen := encL_fits hf
    have hb := length_bd op m
    have ht := hf.1
    obtain ⟨n, hn⟩ := Int.eq_ofNat_of_zero_le (show 0 ≤ lengthI op m by omega)
    rw [hn] at p3 hlen hb
    rw [Int.toNat_natCast] at p3
    obtain ⟨L, hL⟩ : ∃ L, padL (encL op s k x y lab b0 b1 b2 b3 ns ne f g) n = L := ⟨_, rfl⟩
    have hLn : L.length = n := by rw [← hL]; exact padlen (by omega)
    have hsm : Small L := by rw [← hL]; exact padL_small (encL_small _ _ _ _ _ _ _ _ _ _ _ _ _ _) _
    rw [hL] at p3
    have PD := Lib.hid (fun (Y : World) (A : Option Addr) (c : Nat) (hr : Reads .u8 Y Y.heap.size A n (atI L)) (hc : n ≤ c) (hc9 : c ≤ 9223372036854775807) =>
      (show Calls Try.prog 18 #[.int .i64 op, .int .i64 m, .slice A n c] Y fun e w' => (∃ A1 c1 A2 c2, e = .returned (.tuple #[.agg #[.int .i64 s, .int .u64 k, .int .i64 id, .int .i64 x, .int .i64 y, .int .i64 lab, .int .i64 b0, .int .i64 b1, .int .i64 b2, .int .i64 b3, .slice A1 ns c1, .slice A2 ne c2], .int .i64 0]) ∧ IsItems w' w'.heap.size A1 ns 6 f ∧ IsItems w' w'.heap.size A2 ne 4 g) ∧ Below Y.heap.size Y w' from by
        have h9 := decode_any op m A c L Y ht (by rw [hLn]; exact hr) hsm (by rw [hLn, hn]) (by rw [hLn]; exact hc) hc9
        rw [hLn] at h9
        exact h9.mono fun e w' hd => dec_yes hf hk0 hk1 (by rw [hLn]; exact hL) hd))
    have P3 := Lib.hid p3
    have H1 := Lib.hid h1
    have H2 := Lib.hid h2
    clear p3 hL hLn hsm hf hn ht h1 h2 hlen
    go_enter Try.func6, Try.ntmps6
    go_wp2_with fail
    refine (P3.out _ (by repeat' (first | (with_reducible exact Below.refl _ _) | (with_reducible assumption) | (with_reducible refine Later.step ?_ ?_ _) | (with_reducible refine Below.alloc ?_ ?_ _) | (with_reducible refine Below.drew ?_) | (with_reducible refine bel_drewN ?_ _) | (with_reducible refine bel_grown ?_ (by assumption) ?_ ?_) | (with_reducible refine Below.setCell ?_ ?_ _) | go_size))).mono ?_
    rintro e w1 ⟨A, c, rfl, hR, hb1, hc1, hc2⟩
    have hs1 := hb1.size
    simp only [World.size_alloc] at hs1
    have hB1 : Below (w.heap.size + 1) (w.alloc (Obj.cells #[.int .i64 s, .int .u64 k, .int .i64 id, .int .i64 x, .int .i64 y, .int .i64 lab, .int .i64 b0, .int .i64 b1, .int .i64 b2, .int .i64 b3, .slice A1 ns c1, .slice A2 ne c2] 38)) w1 := hb1.mono (by go_size)
    have HR1 := Lib.hid hR
    obtain ⟨X1, rfl⟩ : ∃ Z : Later (w.heap.size + 1) (w.alloc (Obj.cells #[.int .i64 s, .int .u64 k, .int .i64 id, .int .i64 x, .int .i64 y, .int .i64 lab, .int .i64 b0, .int .i64 b1, .int .i64 b2, .int .i64 b3, .slice A1 ns c1, .slice A2 ne c2] 38)), w1 = Z.w := ⟨⟨w1, hB1⟩, rfl⟩
    clear hb1 hB1 hR
    go_wp2_with fail
    refine (PD.out _ A c HR1.out hc1 hc2).mono ?_
    rintro e w2 ⟨⟨A3, c3, A4, c4, rfl, hI3, hI4⟩, hb2⟩
    have hs2 := hb2.size
    have HI3 := Lib.hid hI3
    have HI4 := Lib.hid hI4
    obtain ⟨X2, rfl⟩ : ∃ Z : Later X1.w.heap.size X1.w, w2 = Z.w := ⟨⟨w2, hb2⟩, rfl⟩
    clear hb2 hI3 hI4
    have PS := Lib.hid (fun (Y : World) (hY : Below X2.w.heap.size X2.w Y) (hZ : Below w.heap.size w Y) => asame_true s k id x y lab b0 b1 b2 b3 A1 A2 A3 A4 ns ne c1 c2 c3 c4 f g Y ((H1.out.keep hZ).more hZ.size) ((H2.out.keep hZ).more hZ.size) ((HI3.out.keep hY).more hY.size) ((HI4.out.keep hY).more hY.size) hn1 hn2)
    go_wp2_with (first
      | (go_at_call 19; refine (PS.out _ (by repeat' (first | (with_reducible exact Below.refl _ _) | (with_reducible assumption) | (with_reducible refine Later.step ?_ ?_ _) | (with_reducible refine Below.alloc ?_ ?_ _) | (with_reducible refine Below.drew ?_) | (with_reducible refine bel_drewN ?_ _) | (with_reducible refine bel_grown ?_ (by assumption) ?_ ?_) | (with_reducible refine Below.setCell ?_ ?_ _) | go_size)) (by repeat' (first | (with_reducible exact Below.refl _ _) | (with_reducible assumption) | (with_reducible refine Later.step ?_ ?_ _) | (with_reducible refine Below.alloc ?_ ?_ _) | (with_reducible refine Below.drew ?_) | (with_reducible refine bel_drewN ?_ _) | (with_reducible refine bel_grown ?_ (by assumption) ?_ ?_) | (with_reducible refine Below.setCell ?_ ?_ _) | go_size))).mono ?_; rintro e w' ⟨rfl, hb⟩; obtain ⟨X3, rfl, hl3, hm3⟩ := later (X2.w.heap.size + 1) hb (by first | exact Nat.le_refl _ | go_size); clear hb; (try simp only [World.size_alloc, World.size_setCell, World.size_drew] at hm3))
      | (go_at_call 13; refine (pknown_any _).mono ?_; rintro e w' ⟨rfl, hb⟩; obtain ⟨X4, rfl, hl4, hm4⟩ := later (X3.w.heap.size) hb (by first | exact Nat.le_refl _ | go_size); clear hb; (try simp only [World.size_alloc, World.size_setCell, World.size_drew] at hm4)))
    go_ret
    exact ⟨rfl, by repeat' (first | (with_reducible exact Below.refl _ _) | (with_reducible assumption) | (with_reducible refine Later.step ?_ ?_ _) | (with_reducible refine Below.alloc ?_ ?_ _) | (with_reducible refine Below.drew ?_) | (with_reducible refine bel_drewN ?_ _) | (with_reducible refine bel_grown ?_ (by assumption) ?_ ?_) | (with_reducible refine Below.setCell ?_ ?_ _) | go_size)⟩
  · have P1 := Lib.hid (show ∀ (Y : World) (hY : Below w.heap.size w Y), ∃ z : Int, z ≠ 0 ∧ Calls Try.prog 14 #[.int .i64 op, .int .i64 m, .agg #[.int .i64 s, .int .u64 k, .int .i64 id, .int .i64 x, .int .i64 y, .int .i64 lab, .int .i64 b0, .int .i64 b1, .int .i64 b2, .int .i64 b3, .slice A1 ns c1, .slice A2 ne c2]] Y fun e w' => e = .returned (.tuple #[.slice none 0 0, .int .i64 z]) ∧ Below Y.heap.size Y w' from fun Y hY => by
      by_cases ho : 1 ≤ op ∧ op ≤ 19
      · exact ⟨1, by decide, encode_none op m s k id x y lab b0 b1 b2 b3 A1 A2 ns ne c1 c2 f g Y ((h1.keep hY).more hY.size) ((h2.keep hY).more hY.size) hn1 hn2 ho hf⟩
      · exact ⟨51, by decide, encode_op op m s k id x y lab b0 b1 b2 b3 _ _ Y ho⟩)
    clear hf h1 h2
    go_enter Try.func6, Try.ntmps6
    go_wp2_with fail
    obtain ⟨z, hz, hcall⟩ := P1.out (w.alloc (Obj.cells #[.int .i64 s, .int .u64 k, .int .i64 id, .int .i64 x, .int .i64 y, .int .i64 lab, .int .i64 b0, .int .i64 b1, .int .i64 b2, .int .i64 b3, .slice A1 ns c1, .slice A2 ne c2] 38)) (by repeat' (first | (with_reducible exact Below.refl _ _) | (with_reducible assumption) | (with_reducible refine Later.step ?_ ?_ _) | (with_reducible refine Below.alloc ?_ ?_ _) | (with_reducible refine Below.drew ?_) | (with_reducible refine bel_drewN ?_ _) | (with_reducible refine bel_grown ?_ (by assumption) ?_ ?_) | (with_reducible refine Below.setCell ?_ ?_ _) | go_size))
    refine hcall.mono ?_
    rintro e w' ⟨rfl, hb⟩; obtain ⟨X1, rfl, hl1, hm1⟩ := later (w.heap.size + 1) hb (by first | exact Nat.le_refl _ | go_size); clear hb; (try simp only [World.size_alloc, World.size_setCell, World.size_drew] at hm1)
    clear hcall
    go_wp2_with (first
      | (go_at_call 13; refine (pknown_any _).mono ?_; rintro e w' ⟨rfl, hb⟩; obtain ⟨X2, rfl, hl2, hm2⟩ := later (X1.w.heap.size) hb (by first | exact Nat.le_refl _ | go_size); clear hb; (try simp only [World.size_alloc, World.size_setCell, World.size_drew] at hm2)))
    go_ret
    exact ⟨rfl, by repeat' (first | (with_reducible exact Below.refl _ _) | (with_reducible assumption) | (with_reducible refine Later.step ?_ ?_ _) | (with_reducible refine Below.alloc ?_ ?_ _) | (with_reducible refine Below.drew ?_) | (with_reducible refine bel_drewN ?_ _) | (with_reducible refine bel_grown ?_ (by assumption) ?_ ?_) | (with_reducible refine Below.setCell ?_ ?_ _) | go_size)⟩
end Go.Proofs.Ytdjkhcnejbinjaa
