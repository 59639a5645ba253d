/- Frames that are drained, walked. No condition beyond what the memory holds. -/
import Derived.Test.YthcecinhlhgohaaFrS
namespace Go.Proofs.Ythcecinhlhgohaa
open Go.RowKit
set_option linter.unusedSimpArgs false
set_option linter.unusedVariables false
set_option maxRecDepth 2000

/-- Bytes that lie in a block of which something holds. -/
def Body (w : World) (ok : Nat → Prop) (A : Option Addr) (l : List Nat) : Prop := 0 < l.length → ∃ b o, A = some ⟨b, o, none⟩ ∧ ok b ∧ b < w.heap.size ∧ ∀ j, j < l.length → w.cell? ⟨b, o + j, none⟩ = some (.int .u8 (atI l j))
/-- The cells of parts: bytes and a kind each. -/
def IsParts (w : World) (ok : Nat → Prop) (xs : List Value) (ps : List (List Nat × Nat)) : Prop :=
  xs.length = ps.length * 2 ∧ ∀ i p, ps[i]? = some p → ∃ A c, xs[i * 2]? = some (.slice A p.1.length c) ∧ xs[i * 2 + 1]? = some (.int .i64 (p.2 : Nat)) ∧ Body w ok A p.1
theorem Body.keep {w w' : World} {ok ok' : Nat → Prop} {A : Option Addr} {l : List Nat} (h : Body w ok A l) (hk : ∀ b, b < w.heap.size → ok b → w'.heap[b]? = w.heap[b]? ∧ ok' b) (hs : w.heap.size ≤ w'.heap.size) : Body w' ok' A l := fun hp => by
  obtain ⟨b, o, rfl, h1, h2, h3⟩ := h hp
  obtain ⟨e, h4⟩ := hk b h2 h1
  refine ⟨b, o, rfl, h4, by omega, fun j hj => ?_⟩
  have := h3 j hj
  simp only [World.cell?] at this ⊢
  rw [e]
  exact this
theorem Body.reads {w : World} {ok : Nat → Prop} {A : Option Addr} {l : List Nat} (h : Body w ok A l) : Reads .u8 w w.heap.size A l.length (atI l) := fun hp => by
  obtain ⟨b, o, rfl, _, h2, h3⟩ := h hp
  exact ⟨b, o, rfl, h2, h3⟩
theorem IsParts.keep {w w' : World} {ok ok' : Nat → Prop} {xs : List Value} {ps : List (List Nat × Nat)} (h : IsParts w ok xs ps) (hk : ∀ b, b < w.heap.size → ok b → w'.heap[b]? = w.heap[b]? ∧ ok' b) (hs : w.heap.size ≤ w'.heap.size) : IsParts w' ok' xs ps :=
  ⟨h.1, fun i p hp => by
    obtain ⟨A, c, h1, h2, h4⟩ := h.2 i p hp
    exact ⟨A, c, h1, h2, h4.keep hk hs⟩⟩
theorem IsParts.nil (w : World) (ok : Nat → Prop) : IsParts w ok [] [] := ⟨rfl, fun i p h => by simp at h⟩
theorem IsParts.push {w : World} {ok : Nat → Prop} {xs : List Value} {ps : List (List Nat × Nat)} (h : IsParts w ok xs ps) {A : Option Addr} {c k : Nat} {l : List Nat} (hb : Body w ok A l) :
    IsParts w ok (xs ++ [.slice A l.length c, .int .i64 (k : Nat)]) (ps ++ [(l, k)]) := by
  refine ⟨by rw [List.length_append, List.length_append, h.1]; simp; omega, fun i p hp => ?_⟩
  by_cases hi : i < ps.length
  · rw [List.getElem?_append_left hi] at hp
    obtain ⟨A', c', h1, h2, h4⟩ := h.2 i p hp
    refine ⟨A', c', ?_, ?_, h4⟩
    · rw [List.getElem?_append_left (by rw [h.1]; omega)]; exact h1
    · rw [List.getElem?_append_left (by rw [h.1]; omega)]; exact h2
  · have hi' : i = ps.length := by
      have := (List.getElem?_eq_some_iff.1 hp).1
      simp at this
      omega
    subst hi'
    rw [List.getElem?_append_right (Nat.le_refl _), Nat.sub_self] at hp
    simp at hp
    subst hp
    refine ⟨A, c, ?_, ?_, hb⟩
    · rw [List.getElem?_append_right (by rw [h.1]; exact Nat.le_refl _), h.1, Nat.sub_self]; rfl
    · rw [List.getElem?_append_right (by rw [h.1]; omega), h.1, show ps.length * 2 + 1 - ps.length * 2 = 1 by omega]; rfl
theorem cell_two_new (w : World) (x y : Value) (t : TypeId) : ∀ j u, [x, y][j]? = some u → (w.alloc (.cells #[x, y] t)).cell? ((⟨w.heap.size, 0, none⟩ : Addr).add j) = some u := by
  intro j u hj
  match j, hj with
  | 0, hj => simp at hj; subst hj; simp [Addr.add]
  | 1, hj => simp at hj; subst hj; simp [Addr.add]
/-- Where what was drained lies: behind lo, not in the buffer's row, not in its own list's row. -/
def DOk (lo q : Nat) (w : World) (v : Value) (b : Nat) : Prop := lo ≤ b ∧ NotRow w q b ∧ v.ownBlock ≠ some b
/-- What draining leaves. -/
def Drained (q room over most : Nat) (l : List Nat) (w : World) (e : Ending) (w' : World) : Prop :=
  ∃ A c xs, e = .returned (.slice A (drainN most l over).1.length c) ∧ w'.ownsRow w.heap.size 33 2 (.slice A (drainN most l over).1.length c) (drainN most l over).1.length xs
    ∧ IsParts w' (DOk w.heap.size q w' (.slice A (drainN most l over).1.length c)) xs (drainN most l over).1
    ∧ Buf w' q room (drainN most l over).2.1 (drainN most l over).2.2 ∧ Below q w w' ∧ w.heap.size ≤ w'.heap.size ∧ w.grownBy w' (some q) ∧ RowKeep w w' q
theorem notrow_same {w w' : World} {q b : Nat} (h : NotRow w q b) (e : w'.heap[q]? = w.heap[q]?) : NotRow w' q b := fun g o n c hg => by
  refine h g o n c ?_
  simp only [World.cell?] at hg ⊢
  rw [← e]
  exact hg
theorem own_grown {w w' : World} {base q n size : Nat} {t : TypeId} {v : Value} {xs : List Value} (h : w.ownsRow base t size v n xs) (hg : w.grownBy w' (some q)) (hq : q < base) : w'.ownsRow base t size v n xs := by
  refine h.kept hg ?_
  rcases hv : v.ownBlock with _ | g
  · exact .inl rfl
  · refine .inr ?_
    have := (h.lt g hv).1
    intro e
    injection e with e
    omega
/-- Parts go behind a list of the call's own: the buffer is as it was. -/
theorem Buf.grow {w w' : World} {q room over base n : Nat} {l : List Nat} {v : Value} {xs : List Value} (h : Buf w q room l over) (hv : w.ownsRow base 33 2 v n xs) (hg : w.grownBy w' v.ownBlock) (hq : q < base) : Buf w' q room l over := by
  have hne : some q ≠ v.ownBlock := fun e => by
    have := (hv.lt q e.symm).1
    omega
  obtain ⟨lt, c0, ⟨A, c, c1, own⟩, c2, z1, z2⟩ := h
  have hf : ∀ j, w'.frozen? ⟨q, j, none⟩ = w.frozen? ⟨q, j, none⟩ := fun j => World.frozen?_of_block (hg.block q lt hne)
  refine ⟨Nat.lt_of_lt_of_le lt hg.size, hg.cell c0 hne, ⟨A, c, hg.cell c1 hne, own.kept hg ?_⟩, hg.cell c2 hne, (hf 1).trans z1, (hf 2).trans z2⟩
  rcases own.2 with ⟨hA, _⟩ | ⟨g, cap, cur, hA, _, hgg, _⟩
  · rw [hA]; exact .inl rfl
  · rw [hA]
    refine .inr fun e => ?_
    rcases hv.2 with ⟨hv2, _⟩ | ⟨g', cap', cur', hv2, _, hgg', _⟩
    · rw [hv2] at e; simp [Value.ownBlock] at e
    · rw [hv2] at e
      simp [Value.ownBlock] at e
      subst e
      rw [hgg] at hgg'
      injection hgg' with e
      injection e with _ ht
      exact absurd ht (by decide)
theorem grown_below {w x y : World} {r : Option Nat} (h : w.grownBy x r) (hb : Below w.heap.size x y) : w.grownBy y r :=
  ⟨hb.os.trans h.os, hb.tape.trans h.tape, hb.output.trans h.output, Nat.le_trans h.size hb.size, fun k hk hr => (hb.block k hk).trans (h.block k hk hr)⟩
/-- A part more behind the list. -/
theorem drain_round {w x y z : World} {q room k o c c2 c3 : Nat} {l' : List Nat} {ps : List (List Nat × Nat)} {xs ys : List Value} {A A2 A3 : Option Addr} {ob : Obj} (hq : q < w.heap.size) (hsz : w.heap.size ≤ x.heap.size)
    (hown : x.ownsRow w.heap.size 33 2 (.slice A k c) k xs) (hps : IsParts x (DOk w.heap.size q x (.slice A k c)) xs ps) (hgr : w.grownBy x (some q)) (hrk : RowKeep w x q)
    (own2 : y.ownsRow (q + 1) 5 1 (.slice A2 (nextB l').length c2) (nextB l').length (rowV .u8 (nextB l').length (atI (nextB l')))) (hb2 : Buf y q room (nextL l') (nextO l' o)) (hs2 : x.heap.size ≤ y.heap.size) (hg2 : x.grownBy y (some q))
    (hsep : Sep x y q (.returned (.slice A2 (nextB l').length c2)))
    (hown3 : z.ownsRow w.heap.size 33 2 (.slice A3 (k + 1) c3) (k + 1) ys) (hg3 : (y.alloc ob).grownBy z (Value.slice A k c).ownBlock)
    (hat : (Value.slice A3 (k + 1) c3).ownBlock = (Value.slice A k c).ownBlock ∨ (Value.slice A3 (k + 1) c3).ownBlock = some (y.heap.size + 1)) :
    IsParts z (DOk w.heap.size q z (.slice A3 (k + 1) c3)) (xs ++ [.slice A2 (nextB l').length c2, .int .i64 (kindN l' : Nat)]) (ps ++ [(nextB l', kindN l')]) ∧ Buf z q room (nextL l') (nextO l' o) ∧ w.grownBy z (some q) ∧ RowKeep w z q ∧ w.heap.size ≤ z.heap.size ∧ Below w.heap.size y z := by
  have hlt := hown.lt
  have hoy := own_grown hown hg2 hq
  have hbz : Below w.heap.size y z := ((Below.refl _ _).alloc (by omega) ob).grown hg3 (by rw [World.size_alloc]; omega) (fun k hk => (hlt k hk).1)
  have hyz := hbz.size
  have eq := hbz.block q hq
  have hkb : ∀ b, b < y.heap.size → (Value.slice A k c).ownBlock ≠ some b → z.heap[b]? = y.heap[b]? := fun b hb hne => by
    rw [hg3.block b (by rw [World.size_alloc]; omega) (fun e => hne e.symm)]
    exact heap_alloc_old y ob hb
  have p2 : IsParts y (fun b => b < y.heap.size ∧ DOk w.heap.size q y (.slice A k c) b) xs ps := hps.keep (fun b hb ⟨d1, d2, d3⟩ => ⟨hg2.block b hb (fun e => by injection e with e; omega), by omega, d1, rowkeep_sep hsep b hb d2, d3⟩) hs2
  have hbody : Body y (fun b => b < y.heap.size ∧ DOk w.heap.size q y (.slice A k c) b) A2 (nextB l') := fun hp => by
    obtain ⟨b, o, rfl, hb, hc⟩ := Reads.own own2 hp
    have h1 := hsep.1 b o _ _ rfl
    refine ⟨b, o, rfl, ⟨hb, by omega, fun g o' n' c' hg => (hsep.2 g o' n' c' hg).2 b o _ _ rfl, fun e => ?_⟩, hb, hc⟩
    have := (hlt b e).2
    omega
  have p3 := p2.push (c := c2) (k := kindN l') hbody
  refine ⟨p3.keep (fun b hb ⟨hb', d1, d2, d3⟩ => ⟨hkb b hb d3, d1, notrow_same d2 eq, fun e => ?_⟩) hyz, ?_, grown_below (World.grownBy.trans hgr (hg2)) hbz, fun b hb hn => ?_, by omega, hbz⟩
  · rcases hat with hat | hat
    · exact d3 (hat ▸ e)
    · rw [e] at hat
      injection hat with hat
      omega
  · exact Buf.grow (hb2.keep ((Below.refl _ _).alloc (Nat.le_refl _) ob)) (hoy.alloc ob) hg3 hq
  · exact notrow_same (rowkeep_sep hsep b (by omega) (hrk b hb hn)) eq
set_option maxHeartbeats 8000000 in
theorem drained_any (q room over most : Nat) (l : List Nat) (w : World) (h : Buf w q room l over) (hf : Small l) (hl : l.length ≤ 4096) (hm : most ≤ 1000000) :
    Calls Try.prog 11 #[.pointer (some ⟨q, 0, none⟩), .int .i64 most] w (Drained q room over most l w) := by
  obtain ⟨i0, hi, hz0, hz1, hz2⟩ := info_parts (P := Try.prog) (e := 33) (z := .agg #[.slice none 0 0, .int .i64 0]) (size := 2) (bytes := 32) (by kernel_rfl)
  have HB := Lib.hid h
  have HF := Lib.hid hf
  have hq := h.lt
  clear h hf
  go_enter Try.func11, Try.ntmps11
  go_wp2
  go_loopw [5, 6] (fun v i wr => ∃ (k o : Nat) (l' : List Nat) (ps : List (List Nat × Nat)) (xs : List Value) (A : Option Addr) (c : Nat), v = .slice A k c ∧ i = .int .i64 k ∧ (k ≤ most ∧ Hid (ps.length = k) ∧ Hid (wr.ownsRow w.heap.size 33 2 (.slice A k c) k xs) ∧ Hid (IsParts wr (DOk w.heap.size q wr (.slice A k c)) xs ps) ∧ Hid (Buf wr q room l' o) ∧ Hid (Small l') ∧ l'.length ≤ 4096 ∧ Hid (drainN most l over = (ps ++ (drainN (most - k) l' o).1, (drainN (most - k) l' o).2)) ∧ Hid (w.grownBy wr (some q)) ∧ Hid (RowKeep w wr q)) ∧ Below q w wr ∧ w.heap.size ≤ wr.heap.size) (fun _ i _ => most - (intOf i).toNat)
  case atStart => exact ⟨0, over, l, [], [], none, 0, rfl, rfl, ⟨Nat.zero_le _, rfl, World.ownsRow_nil _ _ _ _, IsParts.nil _ _, HB.out, HF.out, hl, by rw [Nat.sub_zero]; rfl, World.grownBy.refl _ _, fun _ _ h => h⟩, Below.refl _ _, Nat.le_refl _⟩
  case round =>
    obtain ⟨k, o, l', ps, xs, A, c, rfl, rfl, ⟨hk, hpl, hown, hps, hbuf, hsm, hl', hdr, hgr, hrk⟩, hbel, hsz⟩ := hrel
    obtain ⟨X, rfl⟩ : ∃ X : Later q w, wr = X.w := ⟨⟨wr, hbel⟩, rfl⟩
    clear hbel
    by_cases hlt : k < most
    · go_wp2_with fail
      refine (next_sep q room o l' _ hbuf.out hsm.out hl').mono ?_
      rintro e w2 ⟨A2, c2, rfl, own2, hb2, hB2, hs2, hg2, hsep, hbl⟩
      have H2 := Lib.hid own2
      have HB2 := Lib.hid hb2
      have HG2 := Lib.hid hg2
      have HSE := Lib.hid hsep
      have HBL := Lib.hid hbl
      obtain ⟨X2, rfl⟩ : ∃ Z : Later q X.w, w2 = Z.w := ⟨⟨w2, hB2⟩, rfl⟩
      clear own2 hb2 hB2 hg2 hsep hbl
      by_cases hk0 : kindN l' = 0
      · rw [hk0]
        have HK := Lib.hid hk0
        clear hk0
        go_wp2
        go_ret
        have hD : drainN most l over = (ps, l', o) := by rw [hdr.out, drain_stop HK.out, List.append_nil]
        have hB := HBL.out HK.out
        unfold Drained
        rw [hD]
        simp only
        rw [hpl.out]
        refine ⟨A, c, xs, rfl, own_keep hown.out hB, hps.out.keep (fun b hb ⟨d1, d2, d3⟩ => ⟨hB.block b hb, d1, rowkeep_below hB (Nat.lt_of_lt_of_le hq hsz) b hb d2, d3⟩) hB.size, hbuf.out.keep hB, by repeat' (first | (with_reducible exact Below.refl _ _) | (with_reducible assumption) | (with_reducible refine Later.step ?_ ?_ _) | (with_reducible refine Below.alloc ?_ ?_ _) | (with_reducible refine Below.drew ?_) | (with_reducible refine bel_drewN ?_ _) | (with_reducible refine bel_grown ?_ (by assumption) ?_ ?_) | (with_reducible refine Below.setCell ?_ ?_ _) | go_size), by go_size, grown_below hgr.out (hB.mono hsz), (hrk.out).trans (rowkeep_below hB (Nat.lt_of_lt_of_le hq hsz)) hsz⟩
      · have HOX := Lib.hid (own_grown hown.out HG2.out hq)
        have HK := Lib.hid hk0
        clear hk0
        have hk9 : ¬ (kindN l' : Int) = 0 := by have := HK.out; omega
        go_wp2_with (at_builtin; refine wpList_append_own_at _ rfl _ _ 29 rfl w.heap.size 33 i0 (.agg #[.slice none 0 0, .int .i64 0]) 2 32 Try.underlying29 hi hz0 hz1 hz2 rfl (by decide) _ _ _ rfl (HOX.out.alloc _) ⟨X2.w.heap.size, 0, none⟩ 1 1 [_, _] rfl rfl (cell_two_new _ _ _ _) (fun x hx => by simp at hx; rcases hx with rfl | rfl <;> rfl) (by unfold maxLen; omega) (by omega) (by go_size) ?_)
        intro v' w3 hown3 hgrow3 _ hat
        obtain ⟨A3, c3, rfl⟩ := own_form hown3
        have hsep := HSE.out HK.out
        obtain ⟨r1, r2, r3, r4, r5, r6⟩ := drain_round hq hsz hown.out hps.out hgr.out hrk.out H2.out HB2.out hs2 HG2.out hsep hown3 hgrow3 hat
        have hs3 := r6.size
        have O3 := Lib.hid hown3
        have R1 := Lib.hid r1
        have R2 := Lib.hid r2
        have R3 := Lib.hid r3
        have R4 := Lib.hid r4
        have hdl := next_shorter HK.out
        have hfa := Lib.hid (next_facts (room := 4096) hl' (fun h => rfl) (Nat.zero_le _) hsm.out)
        obtain ⟨Z, rfl⟩ : ∃ Z : Later w.heap.size X2.w, w3 = Z.w := ⟨⟨w3, r6⟩, rfl⟩
        clear hown3 hgrow3 hat hsep r1 r2 r3 r4 r6
        go_wp2
        go_roundw
        case rel =>
          refine ⟨k + 1, nextO l' o, nextL l', ps ++ [(nextB l', kindN l')], xs ++ [Value.slice A2 (nextB l').length c2, Value.int IntKind.i64 ((kindN l' : Nat) : Int)], A3, c3, rfl, by go_num, ⟨by omega, ?_, O3.out, R1.out, R2.out, hfa.out.2.2.2, by omega, ?_, R3.out, R4.out⟩, by repeat' (first | (with_reducible exact Below.refl _ _) | (with_reducible assumption) | (with_reducible refine Later.step ?_ ?_ _) | (with_reducible refine Below.alloc ?_ ?_ _) | (with_reducible refine Below.drew ?_) | (with_reducible refine bel_drewN ?_ _) | (with_reducible refine bel_grown ?_ (by assumption) ?_ ?_) | (with_reducible refine Below.setCell ?_ ?_ _) | go_size), by omega⟩
          · rw [Hid, List.length_append, hpl.out]; rfl
          · have e := hdr.out
            rw [show most - k = (most - (k + 1)) + 1 by omega, drain_step HK.out] at e
            rw [Hid, e, List.append_assoc]
            rfl
        case measure => simp [intOf]; omega
    · have hkm : k = most := by omega
      go_wp2
      go_ret
      have hD : drainN most l over = (ps, l', o) := by rw [hdr.out, hkm, Nat.sub_self]; simp [drainN]
      unfold Drained
      rw [hD]
      simp only
      rw [hpl.out]
      exact ⟨A, c, xs, rfl, hown.out, hps.out, hbuf.out, by repeat' (first | (with_reducible exact Below.refl _ _) | (with_reducible assumption) | (with_reducible refine Later.step ?_ ?_ _) | (with_reducible refine Below.alloc ?_ ?_ _) | (with_reducible refine Below.drew ?_) | (with_reducible refine bel_drewN ?_ _) | (with_reducible refine bel_grown ?_ (by assumption) ?_ ?_) | (with_reducible refine Below.setCell ?_ ?_ _) | go_size), by go_size, hgr.out, hrk.out⟩
end Go.Proofs.Ythcecinhlhgohaa
