/- Bytes come into a buffer: where its row lies, walked. No condition beyond what the memory holds. -/
import Derived.Test.YthcecinhlhgohaaFrR
namespace Go.Proofs.Ythcecinhlhgohaa
open Go.RowKit
set_option linter.unusedSimpArgs false
set_option linter.unusedVariables false
set_option maxRecDepth 2000

section
variable {P : Program} (w : World)
/-- append(own row, numbers that read): the walk's step. -/
theorem wpList_app_at {ops : Array Oper} {rest : List Oper} {o : Oper} {a : Act} {Q : Exit → Act → World → Prop} (hgd : o.guard = none) (s x : Operand) (t : TypeId)
    (ho : o.op = .call { callee := .builtin .append, args := #[s, x], argTypes := #[t, t] })
    (base : Nat) (e : TypeId) (i : TypeInfo) (z : Value) (bytes : Nat) (ht : P.underlying t = some (.slice e)) (hi : P.info? e = some i) (hz : i.zero = some z)
    (hsize : i.size = 1) (hby : i.bytes = bytes) (hzs : z.cells.size = 1)
    (v : Value) (n : Nat) (xs : List Value) (hs : a.eval s = v) (hown : w.ownsRow base e 1 v n xs)
    (k : IntKind) (B : Nat) (A : Option Addr) (m c : Nat) (f : Nat → Int) (hx : a.eval x = .slice A m c) (hr : Reads k w B A m f)
    (h63 : n + m ≤ 9223372036854775807) (hbytes : (n + m) * bytes ≤ 140737488355328) (hbase : base ≤ w.heap.size)
    (h : ∀ v' w', w'.ownsRow base e 1 v' (n + m) (xs ++ rowV k m f) → w.grownBy w' v.ownBlock → (v'.ownBlock = v.ownBlock ∨ v'.ownBlock = some w.heap.size) → wpList P ops Q rest (a.put o.dst v') w') : wpList P ops Q (o :: rest) a w := by
  have hrun : ∃ v' w', (Builtin.append_ #[t, t] o.type #[v, .slice A m c]).run P w = .ok v' w' ∧ w'.ownsRow base e 1 v' (n + m) (xs ++ rowV k m f) ∧ w.grownBy w' v.ownBlock ∧ (v'.ownBlock = v.ownBlock ∨ v'.ownBlock = some w.heap.size) := by
    rcases A with _ | ad
    · have hm : m = 0 := by
        rcases Nat.eq_zero_or_pos m with h0 | h0
        · exact h0
        · obtain ⟨b, o, h, _⟩ := hr h0
          cases h
      subst hm
      exact ⟨v, w, run_app_nil w base t o.type e i 1 ht hi v n xs hown c, by simpa [rowV] using hown, World.grownBy.refl w _, .inl rfl⟩
    · have hcells : ∀ j u, (rowV k m f)[j]? = some u → w.cell? (ad.add j) = some u := by
        intro j u hu
        have hj : j < m := by have := (List.getElem?_eq_some_iff.1 hu).1; rwa [rowV_len] at this
        obtain ⟨b, oo, h, _, hc⟩ := hr (by omega)
        injection h with h
        subst h
        rw [Addr.add_lit, hc j hj, ← hu, rowV_get hj]
      obtain ⟨v', w', hrun, h2, h3, _, h5⟩ := run_append_own_at (P := P) w base t o.type e i z 1 bytes ht hi hz hsize hby hzs (by omega) v n xs hown ad m c (rowV k m f) (by rw [rowV_len, Nat.mul_one]) hcells rowV_one h63 hbytes hbase
      exact ⟨v', w', hrun, h2, h3, h5⟩
  refine wpList_plain hgd fun _ hK => ?_
  obtain ⟨v', w', hrun, h2, h3, h5⟩ := hrun
  unfold Oper.wp execOp
  simp only [ho, resolve, invoke, builtin, Sem.run_bind, Sem.run_pure, Result.andThen_ok, List.map_toArray, List.map_cons, List.map_nil, hs, hx, hrun]
  exact hK _ _ (h v' w' h2 h3 h5)
end

/-- A block is not the buffer's row. -/
def NotRow (w : World) (q b : Nat) : Prop := ∀ g o n c, w.cell? ⟨q, 1, none⟩ = some (.slice (some ⟨g, o, none⟩) n c) → b ≠ g
/-- What was not the buffer's row is not. -/
def RowKeep (w w' : World) (q : Nat) : Prop := ∀ b, b < w.heap.size → NotRow w q b → NotRow w' q b
theorem rowkeep_app {w f : World} {q base n m c k s : Nat} {t : TypeId} {xs : List Value} {A A1 : Option Addr} (h1 : w.cell? ⟨q, 1, none⟩ = some (.slice A n c)) (own : w.ownsRow base t 1 (.slice A n c) n xs) (hf : f.cell? ⟨q, 1, none⟩ = some (.slice A1 m k))
    (hat : (Value.slice A1 m k).ownBlock = (Value.slice A n c).ownBlock ∨ (Value.slice A1 m k).ownBlock = some s) (hs : w.heap.size ≤ s) : RowKeep w f q := fun b hb hn g o n' c' hg => by
  rw [hf] at hg
  injection hg with hg
  injection hg with hg
  subst hg
  rcases hat with hat | hat
  · rcases own.2 with ⟨hv, _⟩ | ⟨g', cap, cur, hv, _⟩
    · rw [hv] at hat
      simp [Value.ownBlock] at hat
    · rw [hv] at hat
      injection hv with hA
      subst hA
      simp [Value.ownBlock] at hat
      subst hat
      exact hn _ _ _ _ h1
  · simp [Value.ownBlock] at hat
    omega
theorem rowkeep_below {w f : World} {q : Nat} (h : Below w.heap.size w f) (hq : q < w.heap.size) : RowKeep w f q := fun b hb hn g o n' c' hg => by
  have e := h.block q hq
  refine hn g o n' c' ?_
  simp only [World.cell?] at hg ⊢
  rw [← e]
  exact hg
theorem RowKeep.trans {a b c : World} {q : Nat} (h : RowKeep a b q) (h' : RowKeep b c q) (hs : a.heap.size ≤ b.heap.size) : RowKeep a c q := fun x hx hn => h' x (Nat.lt_of_lt_of_le hx hs) (h x hx hn)
theorem rowkeep_sep {w f : World} {q : Nat} {e : Ending} (h : Sep w f q e) : RowKeep w f q := fun b hb _ g o n c hg => by
  have := (h.2 g o n c hg).1
  omega
set_option maxHeartbeats 4000000 in
theorem feed_sep (q room over : Nat) (l m : List Nat) (X : Option Addr) (c' : Nat) (w : World) (h : Buf w q room l over) (hx : Reads .u8 w w.heap.size X m.length (atI m)) (hc : m.length ≤ c') (hc' : c' ≤ 9223372036854775807)
    (hroom : room ≤ 4096) (hl : l.length ≤ room) (hov : over ≤ 1000000) :
    Calls Try.prog 10 #[.pointer (some ⟨q, 0, none⟩), .slice X m.length c'] w fun e w' => e = .returned (.bool (fedOk room over l m)) ∧ Below q w w' ∧ w.heap.size ≤ w'.heap.size ∧ Buf w' q room (fedL room over l m) (fedO room over l m) ∧ Kept w w' q ∧ (fedOk room over l m = false → Below w.heap.size w w') ∧ RowKeep w w' q := by
  have hB := Lib.hid h
  obtain ⟨lt, c0, ⟨A, c, c1, own⟩, c2, z1, z2⟩ := h
  obtain ⟨i0, hi, hz0, hz1, hz2⟩ := info_parts Try.info5
  have hHI := Lib.hid hi
  have hcap := own_cap own
  obtain ⟨d, hd⟩ : ∃ d, min over m.length = d := ⟨_, rfl⟩
  have hmin : min (over : Int) (m.length : Int) = (d : Int) := by omega
  have hdn : d ≤ m.length := by omega
  have hdo : d ≤ over := by omega
  unfold fedL fedO fedOk
  rw [hd]
  have HD := Lib.hid hd
  clear hd
  have HX := Lib.hid hx
  have HO := Lib.hid own
  clear hx own
  by_cases hfit : m.length - d + l.length ≤ room
  · rw [decide_eq_true hfit, if_pos rfl, if_pos rfl]
    have hcase : c' = d ∨ ¬ c' = d := by omega
    rcases hcase with hcc | hcc
    · go_enter Try.func10, Try.ntmps10
      go_wp2
      (refine wp_region_later (w.heap.size) (by kernel_rfl) (by kernel_rfl) (by go_size) ?_; (repeat (go_big_quiet_step (fail))); refine wpQuiet_nil ?_; intro Xq hlq hmq)
      have hownX : (Xq.w.setCell ⟨q, 2, none⟩ (.int .i64 ((over : Int) - (d : Int)))).ownsRow (q + 1) 5 1 (.slice A l.length c) l.length (rowV .u8 l.length (atI l)) := own_set (own_keep HO.out Xq.is) (show q < q + 1 by omega) _
      have hrX : Reads .u8 (Xq.w.setCell ⟨q, 2, none⟩ (.int .i64 ((over : Int) - (d : Int)))) w.heap.size X m.length (atI m) := (HX.out.keep Xq.is).set_other (by go_simp; rfl) (fun _ h => by cases h) _
      have hzS : (Xq.w.setCell ⟨q, 2, none⟩ (.int .i64 ((over : Int) - (d : Int)))).heap.size = Xq.w.heap.size := by go_simp
      have HOX := Lib.hid hownX
      have HRX := Lib.hid hrX
      clear hownX hrX
      go_wp2_with (at_builtin; refine wpList_app_at _ rfl _ _ 22 rfl (q + 1) 5 i0 (.int .u8 0) 1 Try.underlying22 hHI.out hz0 hz1 hz2 rfl _ l.length _ rfl HOX.out .u8 w.heap.size _ _ _ (fun j => atI m (d + j)) rfl ?r1 ?r2 ?r3 ?r4 ?_)
      case r1 => exact fun hlt => absurd hlt (by omega)
      case r2 => omega
      case r3 => omega
      case r4 => rw [hzS]; omega
      intro v1 w1 hown1 hgrow1 hat
      obtain ⟨A1, k1, rfl⟩ := own_form hown1
      have hb1 : Below (q + 1) (Xq.w.setCell ⟨q, 2, none⟩ (.int .i64 ((over : Int) - (d : Int)))) w1 := (Below.refl _ _).grown hgrow1 (by rw [hzS]; omega) (fun k hk => (HOX.out.lt k hk).1)
      have hs1 := hb1.size
      rw [hzS] at hs1
      obtain ⟨Y, rfl⟩ : ∃ Y : Later (q + 1) (Xq.w.setCell ⟨q, 2, none⟩ (.int .i64 ((over : Int) - (d : Int)))), w1 = Y.w := ⟨⟨w1, hb1⟩, rfl⟩
      have HO1 := Lib.hid hown1
      have HG1 := Lib.hid hgrow1
      clear hown1 hgrow1 hb1
      go_wp2
      go_ret
      refine ⟨rfl, by repeat' (first | (with_reducible exact Below.refl _ _) | (with_reducible assumption) | (with_reducible refine Later.step ?_ ?_ _) | (with_reducible refine Below.alloc ?_ ?_ _) | (with_reducible refine Below.drew ?_) | (with_reducible refine bel_drewN ?_ _) | (with_reducible refine bel_grown ?_ (by assumption) ?_ ?_) | (with_reducible refine Below.setCell ?_ ?_ _) | go_size), by go_size, ⟨by go_size, by go_simp, ⟨A1, k1, ?_, ?_⟩, by go_simp; omega, by go_simp, by go_simp⟩, ?_, fun h => (by cases h), rowkeep_app c1 HO.out (by go_simp) hat Xq.is.size⟩
      · rw [List.length_append, List.length_drop]; go_simp
      · have := own_set (p := ⟨q, 1, none⟩) HO1.out (show q < q + 1 by omega) (.slice A1 (l.length + (m.length - d)) k1)
        rw [rowV_drop, rowV_app] at this
        rw [List.length_append, List.length_drop] at this ⊢
        exact this
      · intro k hk hkq hkg
        have hne : some k ≠ (Value.slice A l.length c).ownBlock := by
          rcases HO.out.2 with ⟨hv, _⟩ | ⟨g, cap, cur, hv, _⟩
          · rw [hv]; simp [Value.ownBlock]
          · injection hv with hA
            subst hA
            have := hkg g 0 _ _ c1
            simpa [Value.ownBlock] using this
        have e1 := Below.heap_setCell Y.w ⟨q, 1, none⟩ (.slice A1 (l.length + (m.length - d)) k1) k hkq
        have e2 := HG1.out.block k (by rw [hzS]; exact Nat.lt_of_lt_of_le hk Xq.is.size) hne
        have e3 := Below.heap_setCell Xq.w ⟨q, 2, none⟩ (.int .i64 ((over : Int) - (d : Int))) k hkq
        exact ((e1.trans e2).trans e3).trans (Xq.is.block k hk)
    · go_enter Try.func10, Try.ntmps10
      go_wp2
      (refine wp_region_later (w.heap.size) (by kernel_rfl) (by kernel_rfl) (by go_size) ?_; (repeat (go_big_quiet_step (fail))); refine wpQuiet_nil ?_; intro Xq hlq hmq)
      have hownX : (Xq.w.setCell ⟨q, 2, none⟩ (.int .i64 ((over : Int) - (d : Int)))).ownsRow (q + 1) 5 1 (.slice A l.length c) l.length (rowV .u8 l.length (atI l)) := own_set (own_keep HO.out Xq.is) (show q < q + 1 by omega) _
      have hrX : Reads .u8 (Xq.w.setCell ⟨q, 2, none⟩ (.int .i64 ((over : Int) - (d : Int)))) w.heap.size X m.length (atI m) := (HX.out.keep Xq.is).set_other (by go_simp; rfl) (fun _ h => by cases h) _
      have hzS : (Xq.w.setCell ⟨q, 2, none⟩ (.int .i64 ((over : Int) - (d : Int)))).heap.size = Xq.w.heap.size := by go_simp
      have HOX := Lib.hid hownX
      have HRX := Lib.hid hrX
      clear hownX hrX
      go_wp2_with (at_builtin; refine wpList_app_at _ rfl _ _ 22 rfl (q + 1) 5 i0 (.int .u8 0) 1 Try.underlying22 hHI.out hz0 hz1 hz2 rfl _ l.length _ rfl HOX.out .u8 w.heap.size _ (m.length - d) (c' - d) (fun j => atI m (d + j)) rfl ?r1 ?r2 ?r3 ?r4 ?_)
      case r1 => exact HRX.out.from_ (fun b o e hlt => by subst e; first | (exfalso; omega) | rfl | simp [Addr.add_lit] | skip)
      case r2 => omega
      case r3 => omega
      case r4 => rw [hzS]; omega
      intro v1 w1 hown1 hgrow1 hat
      obtain ⟨A1, k1, rfl⟩ := own_form hown1
      have hb1 : Below (q + 1) (Xq.w.setCell ⟨q, 2, none⟩ (.int .i64 ((over : Int) - (d : Int)))) w1 := (Below.refl _ _).grown hgrow1 (by rw [hzS]; omega) (fun k hk => (HOX.out.lt k hk).1)
      have hs1 := hb1.size
      rw [hzS] at hs1
      obtain ⟨Y, rfl⟩ : ∃ Y : Later (q + 1) (Xq.w.setCell ⟨q, 2, none⟩ (.int .i64 ((over : Int) - (d : Int)))), w1 = Y.w := ⟨⟨w1, hb1⟩, rfl⟩
      have HO1 := Lib.hid hown1
      have HG1 := Lib.hid hgrow1
      clear hown1 hgrow1 hb1
      go_wp2
      go_ret
      refine ⟨rfl, by repeat' (first | (with_reducible exact Below.refl _ _) | (with_reducible assumption) | (with_reducible refine Later.step ?_ ?_ _) | (with_reducible refine Below.alloc ?_ ?_ _) | (with_reducible refine Below.drew ?_) | (with_reducible refine bel_drewN ?_ _) | (with_reducible refine bel_grown ?_ (by assumption) ?_ ?_) | (with_reducible refine Below.setCell ?_ ?_ _) | go_size), by go_size, ⟨by go_size, by go_simp, ⟨A1, k1, ?_, ?_⟩, by go_simp; omega, by go_simp, by go_simp⟩, ?_, fun h => (by cases h), rowkeep_app c1 HO.out (by go_simp) hat Xq.is.size⟩
      · rw [List.length_append, List.length_drop]; go_simp
      · have := own_set (p := ⟨q, 1, none⟩) HO1.out (show q < q + 1 by omega) (.slice A1 (l.length + (m.length - d)) k1)
        rw [rowV_drop, rowV_app] at this
        rw [List.length_append, List.length_drop] at this ⊢
        exact this
      · intro k hk hkq hkg
        have hne : some k ≠ (Value.slice A l.length c).ownBlock := by
          rcases HO.out.2 with ⟨hv, _⟩ | ⟨g, cap, cur, hv, _⟩
          · rw [hv]; simp [Value.ownBlock]
          · injection hv with hA
            subst hA
            have := hkg g 0 _ _ c1
            simpa [Value.ownBlock] using this
        have e1 := Below.heap_setCell Y.w ⟨q, 1, none⟩ (.slice A1 (l.length + (m.length - d)) k1) k hkq
        have e2 := HG1.out.block k (by rw [hzS]; exact Nat.lt_of_lt_of_le hk Xq.is.size) hne
        have e3 := Below.heap_setCell Xq.w ⟨q, 2, none⟩ (.int .i64 ((over : Int) - (d : Int))) k hkq
        exact ((e1.trans e2).trans e3).trans (Xq.is.block k hk)
  · rw [decide_eq_false hfit, if_neg (by simp), if_neg (by simp)]
    have hcc : ¬ c' = d := by omega
    generalize m.length = n at *
    go_enter Try.func10, Try.ntmps10
    go_wp2
    (refine wp_region_later (w.heap.size) (by kernel_rfl) (by kernel_rfl) (by go_size) ?_; (repeat (go_big_quiet_step (fail))); refine wpQuiet_nil ?_; intro Xq hlq hmq)
    go_wp2
    go_ret
    exact ⟨rfl, by repeat' (first | (with_reducible exact Below.refl _ _) | (with_reducible assumption) | (with_reducible refine Later.step ?_ ?_ _) | (with_reducible refine Below.alloc ?_ ?_ _) | (with_reducible refine Below.drew ?_) | (with_reducible refine bel_drewN ?_ _) | (with_reducible refine bel_grown ?_ (by assumption) ?_ ?_) | (with_reducible refine Below.setCell ?_ ?_ _) | go_size), by go_size, hB.out.keep (by repeat' (first | (with_reducible exact Below.refl _ _) | (with_reducible assumption) | (with_reducible refine Later.step ?_ ?_ _) | (with_reducible refine Below.alloc ?_ ?_ _) | (with_reducible refine Below.drew ?_) | (with_reducible refine bel_drewN ?_ _) | (with_reducible refine bel_grown ?_ (by assumption) ?_ ?_) | (with_reducible refine Below.setCell ?_ ?_ _) | go_size)), fun k hk _ _ => Xq.is.block k hk, fun _ => Xq.is, rowkeep_below Xq.is lt⟩
end Go.Proofs.Ythcecinhlhgohaa
