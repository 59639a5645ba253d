/- Tickets that go: over walked, let walked. No condition beyond what the table reads as. -/
import Derived.Test.YtjfgjlklbepnjaaTkC
namespace Go.Proofs.Ytjfgjlklbepnjaa
open Go.RowKit
set_option linter.unusedSimpArgs false
set_option linter.unusedVariables false
set_option maxRecDepth 2000

/-- A table and its row may change, nothing else that was there; the row that comes is the old one or new memory. -/
structure TabTo (w : World) (q : Nat) (A : Option Addr) (w' : World) (A' : Option Addr) : Prop where
  os : w'.os = w.os
  tape : w'.tape = w.tape
  output : w'.output = w.output
  size : w.heap.size ≤ w'.heap.size
  block : ∀ k, k < w.heap.size → k ≠ q → (∀ a, A = some a → a.block ≠ k) → w'.heap[k]? = w.heap[k]?
  row : ∀ a', A' = some a' → (∃ a, A = some a ∧ a.block = a'.block) ∨ w.heap.size ≤ a'.block
theorem TabTo.refl (w : World) (q : Nat) (A : Option Addr) : TabTo w q A w A := ⟨rfl, rfl, rfl, Nat.le_refl _, fun _ _ _ _ => rfl, fun a h => .inl ⟨a, h, rfl⟩⟩
theorem TabTo.trans {w w1 w2 : World} {q : Nat} {A A1 A2 : Option Addr} (h : TabTo w q A w1 A1) (h' : TabTo w1 q A1 w2 A2) : TabTo w q A w2 A2 :=
  ⟨h'.os.trans h.os, h'.tape.trans h.tape, h'.output.trans h.output, Nat.le_trans h.size h'.size, fun k hk hq ha => by
    refine (h'.block k (Nat.lt_of_lt_of_le hk h.size) hq fun a1 e1 => ?_).trans (h.block k hk hq ha)
    rcases h.row a1 e1 with ⟨a, e, hb⟩ | hge
    · rw [← hb]; exact ha a e
    · omega, fun a' e => by
    rcases h'.row a' e with ⟨a1, e1, hb⟩ | hge
    · rcases h.row a1 e1 with ⟨a, e2, hb2⟩ | hge
      · exact .inl ⟨a, e2, hb2.trans hb⟩
      · exact .inr (by omega)
    · exact .inr (Nat.le_trans h.size hge)⟩
theorem TabTo.below {w w' : World} {q : Nat} {A : Option Addr} (h : Below w.heap.size w w') : TabTo w q A w' A :=
  ⟨h.os, h.tape, h.output, h.size, fun k hk _ _ => h.block k hk, fun a e => .inl ⟨a, e, rfl⟩⟩
theorem own_fresh {w : World} {base n size cc : Nat} {e : TypeId} {C : Option Addr} {xs : List Value} (h : w.ownsRow base e size (.slice C n cc) n xs) : ∀ a, C = some a → base ≤ a.block := fun a ha => by
  rcases h.2 with ⟨hv, _⟩ | ⟨g, cap, cur, hv, hb, _⟩
  · injection hv with h1; rw [h1] at ha; cases ha
  · injection hv with h1; rw [h1] at ha; injection ha with ha; subst ha; exact hb
theorem TabTo.far {w w' : World} {q : Nat} {A A' : Option Addr} (h : TabTo w q A w' A') {g : Nat} (hg : g < w.heap.size) (h1 : g ≠ q) (h2 : ∀ a, A = some a → a.block ≠ g) : w'.heap[g]? = w.heap[g]? := h.block g hg h1 h2
theorem TabTo.cells {w w' : World} {q : Nat} {A A' : Option Addr} (h : TabTo w q A w' A') {g n : Nat} {F : Nat → Value} (hc : CellsAt w g n F) (h1 : g ≠ q) (h2 : ∀ a, A = some a → a.block ≠ g) : CellsAt w' g n F :=
  ⟨Nat.lt_of_lt_of_le hc.1 h.size, fun j hj => by
    have e := h.far hc.1 h1 h2
    exact ⟨(World.cell?_of_block (a := ⟨g, j, none⟩) e).trans (hc.2 j hj).1, (World.frozen?_of_block (a := ⟨g, j, none⟩) e).trans (hc.2 j hj).2⟩⟩
/-- All that is elder than the table. -/
theorem TabTo.elder {w w' : World} {q c : Nat} {A A' : Option Addr} {T : List Tk} (h : TabTo w q A w' A') (ht : Tab w q A c T) : Below q w w' :=
  ⟨h.os, h.tape, h.output, h.size, fun k hk => h.block k (Nat.lt_trans hk ht.lt) (by omega) fun a e => by have := own_fresh ht.own a e; omega⟩
/-- A table gets another row. -/
theorem tab_set {w w' : World} {q c cc : Nat} {A C : Option Addr} {T M : List Tk} (h : Tab w q A c T) (hb : Below w.heap.size w w') (ho : w'.ownsRow w.heap.size 73 10 (.slice C M.length cc) M.length (tkV M)) : Tab (w'.setCell ⟨q, 0, none⟩ (.slice C M.length cc)) q C cc M ∧ TabTo w q A (w'.setCell ⟨q, 0, none⟩ (.slice C M.length cc)) C := by
  have hl := h.lt
  have h' := h.keep hb
  have hs := hb.size
  refine ⟨⟨by rw [World.size_setCell]; omega, ?_, ?_, own_base (own_set ho (p := ⟨q, 0, none⟩) hl _) (by omega)⟩, ⟨?_, ?_, ?_, by rw [World.size_setCell]; exact hs, fun k hk hq ha => ?_, fun a e => .inr (own_fresh ho a e)⟩⟩
  · have := h'.cell
    have := h'.fz
    go_simp
  · have := h'.cell
    have := h'.fz
    go_simp
  · exact hb.os
  · exact hb.tape
  · exact hb.output
  · exact (Below.heap_setCell w' ⟨q, 0, none⟩ _ k hq).trans (hb.block k hk)
theorem fld_til (x : Gr) (w : World) : (Instr.field 30 (.agg #[.int .i64 x.ops, .int .i64 x.zoom, .int .i64 x.a, .int .i64 x.b, .int .i64 x.c, .int .i64 x.d, .bool x.void, .int .i64 x.til]) 4).run Try.prog w = .ok (.int .i64 x.til) w := by kernel_rfl
set_option maxHeartbeats 4000000 in
theorem over_any (q c : Nat) (A : Option Addr) (T : List Tk) (k : Tk) (now : Int) (w : World) (h : Tab w q A c T) (hn : T.length ≤ 100) (hu : U64 T) (hg : GoodT T) (hk : k.p < 18446744073709551616) (hr : rightG k.g = true) :
    Calls Try.prog 47 #[.agg #[.pointer (some ⟨q, 0, none⟩), .int .i64 now], .agg #[.int .u64 (k.s : Nat), .int .u64 (k.p : Nat), .int .i64 k.g.ops, .int .i64 k.g.zoom, .int .i64 k.g.a, .int .i64 k.g.b, .int .i64 k.g.c, .int .i64 k.g.d, .bool k.g.void, .int .i64 k.g.til]] w fun e w' => e = .returned (.bool (decide ((grantsT T k).til < now))) ∧ Below w.heap.size w w' := by
  have P1 := Lib.hid (fun (Y : World) (hY : Below w.heap.size w Y) => grants_any q c A T k Y (h.keep hY) hn hu hg hk hr)
  clear h hu hg hk hr
  generalize grantsT T k = G at *
  have hfl := fun Y : World => fld_til G Y
  go_enter Try.func47, Try.ntmps47
  go_wp2_with fail
  (refine wp_region_later (w.heap.size + 2) (by kernel_rfl) (by kernel_rfl) (by go_size) ?_; (repeat (go_big_quiet_step ((first | (go_at_call 39; exact Later.call _ (Nat.le_trans (by go_size) (Later.is _).size) (P1.out _ (by repeat' (first | (with_reducible exact Below.refl _ _) | (with_reducible assumption) | (with_reducible refine Later.step ?_ ?_ _) | (with_reducible refine Below.alloc ?_ ?_ _) | (with_reducible refine Below.drew ?_) | (with_reducible refine bel_drewN ?_ _) | (with_reducible refine bel_grown ?_ (by assumption) ?_ ?_) | (with_reducible refine Below.setCell ?_ ?_ _) | go_size)))))))); refine wpQuiet_nil ?_; intro Xq hlq hmq)
  go_wp2
  go_ret
  exact ⟨rfl, by repeat' (first | (with_reducible exact Below.refl _ _) | (with_reducible assumption) | (with_reducible refine Later.step ?_ ?_ _) | (with_reducible refine Below.alloc ?_ ?_ _) | (with_reducible refine Below.drew ?_) | (with_reducible refine bel_drewN ?_ _) | (with_reducible refine bel_grown ?_ (by assumption) ?_ ?_) | (with_reducible refine Below.setCell ?_ ?_ _) | go_size)⟩
theorem filter_snoc (P : Tk → Bool) (T : List Tk) {k : Nat} (hk : k < T.length) : (T.take (k + 1)).filter P = (T.take k).filter P ++ if P (T.getD k t0) = true then [T.getD k t0] else [] := by
  rw [take_snoc hk, List.filter_append]
  congr 1
  by_cases h : P (T.getD k t0) = true
  · rw [if_pos h, List.filter_cons_of_pos h]; rfl
  · rw [if_neg h, List.filter_cons_of_neg h]; rfl
/-- What let leaves. -/
def LetPost (w : World) (q : Nat) (A : Option Addr) (M : List Tk) (e : Ending) (w' : World) : Prop := e = .returned (.tuple #[]) ∧ ∃ A' c', Tab w' q A' c' M ∧ TabTo w q A w' A'
set_option maxHeartbeats 8000000 in
theorem let_over (q c : Nat) (A : Option Addr) (T : List Tk) (now : Int) (w : World) (h : Tab w q A c T) (hn : T.length ≤ 100) (hu : U64 T) (hg : GoodT T) :
    Calls Try.prog 36 #[.pointer (some ⟨q, 0, none⟩), .func (.func 47) #[.agg #[.pointer (some ⟨q, 0, none⟩), .int .i64 now]] #[]] w (LetPost w q A (T.filter fun k => !decide ((grantsT T k).til < now))) := by
  obtain ⟨i0, hi, hz0, hz1, hz2⟩ := info_parts (show (Try.prog.info? 73).map (fun i => (i.zero, i.size, i.bytes)) = some (some (.agg #[.int .u64 (t0.s : Nat), .int .u64 (t0.p : Nat), .int .i64 t0.g.ops, .int .i64 t0.g.zoom, .int .i64 t0.g.a, .int .i64 t0.g.b, .int .i64 t0.g.c, .int .i64 t0.g.d, .bool t0.g.void, .int .i64 t0.g.til]), 10, 80) by kernel_rfl)
  have HT := Lib.hid h
  have hc := h.cell
  have hq := h.lt
  have hz := h.fz
  have P1 := Lib.hid (fun (k : Tk) (hk : k ∈ T) (Y : World) (hY : Below w.heap.size w Y) => over_any q c A T k now Y (h.keep hY) hn hu hg (hu k hk).2 (hg.mem k hk).2.2)
  obtain ⟨P, hP⟩ : ∃ P : Tk → Bool, (fun k => decide ((grantsT T k).til < now)) = P := ⟨_, rfl⟩
  have hPk : ∀ k, decide ((grantsT T k).til < now) = P k := fun k => congrFun hP k
  rw [show (fun k => !decide ((grantsT T k).til < now)) = fun k => !P k from by funext k; rw [hPk]]
  have P2 := Lib.hid (fun (k : Tk) (hk : k ∈ T) (Y : World) (hY : Below w.heap.size w Y) => by have h9 := P1.out k hk Y hY; rw [hPk] at h9; exact h9)
  obtain ⟨n, hnn⟩ : ∃ n, T.length = n := ⟨_, rfl⟩
  rw [hnn] at hc hn
  have HN := Lib.hid hnn
  obtain ⟨M, hM⟩ : ∃ M, (T.filter fun k => !P k) = M := ⟨_, rfl⟩
  rw [hM]
  have HM := Lib.hid hM
  clear h hu hg P1 hP hPk hnn hM
  go_enter Try.func36, Try.ntmps36
  go_wp2
  go_loopw [4, 12] (fun al i wr => ∃ (k : Nat) (C : Option Addr) (cc m : Nat), (k ≤ n ∧ m ≤ k ∧ Hid (wr.ownsRow w.heap.size 73 10 (.slice C m cc) m (tkV ((T.take k).filter fun k => !P k)) ∧ ((T.take k).filter fun k => !P k).length = m)) ∧ al = .slice C m cc ∧ i = .int .i64 k ∧ Below w.heap.size w wr ∧ w.heap.size ≤ wr.heap.size) (fun _ i _ => n - (intOf i).toNat)
  case atStart => exact ⟨0, none, 0, 0, ⟨Nat.zero_le _, Nat.zero_le _, World.ownsRow_nil _ _ _ _, rfl⟩, rfl, rfl, Below.refl _ _, Nat.le_refl _⟩
  case round =>
    obtain ⟨k, C, cc, m, ⟨hk, hm, hown⟩, rfl, rfl, hbel, hsz⟩ := hrel
    obtain ⟨X, rfl⟩ : ∃ X : Later w.heap.size w, wr = X.w := ⟨⟨wr, hbel⟩, rfl⟩
    clear hbel
    by_cases hlt : k < n
    · obtain ⟨b, o, hA, hB, hc9⟩ := HT.out.tks (by rw [HN.out]; omega)
      subst hA
      have hck := hc9 k (by rw [HN.out]; exact hlt)
      have hsn := filter_snoc (fun k => !P k) T (k := k) (by rw [HN.out]; exact hlt)
      have hmem : T.getD k t0 ∈ T := by rw [getD_lt (by rw [HN.out]; exact hlt)]; exact List.getElem_mem _
      obtain ⟨x, hx⟩ : ∃ x, T.getD k t0 = x := ⟨_, rfl⟩
      rw [hx] at hck hsn hmem
      have c0 := hck 0 (by decide)
      have c1 := hck 1 (by decide)
      have c2 := hck 2 (by decide)
      have c3 := hck 3 (by decide)
      have c4 := hck 4 (by decide)
      have c5 := hck 5 (by decide)
      have c6 := hck 6 (by decide)
      have c7 := hck 7 (by decide)
      have c8 := hck 8 (by decide)
      have c9 := hck 9 (by decide)
      simp only [tkC, List.getD_cons_zero, List.getD_cons_succ, Nat.add_zero] at c0 c1 c2 c3 c4 c5 c6 c7 c8 c9
      have p3 := P2.out x hmem
      obtain ⟨d, hd⟩ : ∃ d, P x = d := ⟨_, rfl⟩
      rw [hd] at p3 hsn
      have P3 := Lib.hid p3
      have HSN := Lib.hid hsn
      clear hc9 hck hx hmem p3 hsn hd
      cases d with
      | true =>
        go_wp2_with (first
          | (go_at_call 47; refine (P3.out _ (by repeat' (first | (with_reducible exact Below.refl _ _) | (with_reducible assumption) | (with_reducible refine Later.step ?_ ?_ _) | (with_reducible refine Below.alloc ?_ ?_ _) | (with_reducible refine Below.drew ?_) | (with_reducible refine bel_drewN ?_ _) | (with_reducible refine bel_grown ?_ (by assumption) ?_ ?_) | (with_reducible refine Below.setCell ?_ ?_ _) | go_size))).mono ?_; rintro e w' ⟨rfl, hb⟩; obtain ⟨X1, rfl, hl1, hm1⟩ := later _ hb (Nat.le_refl _); clear hb; (try simp only [World.size_alloc, World.size_setCell, World.size_drew] at hm1 hl1)))
        go_roundw
        case rel =>
          have h9 := hown.out
          rw [show ((T.take k).filter fun k => !P k) = ((T.take (k + 1)).filter fun k => !P k) from by rw [HSN.out]; simp] at h9
          exact ⟨k + 1, _, _, m, ⟨by omega, by omega, own_keep h9.1 (by repeat' (first | (with_reducible exact Below.refl _ _) | (with_reducible assumption) | (with_reducible refine Later.step ?_ ?_ _) | (with_reducible refine Below.alloc ?_ ?_ _) | (with_reducible refine Below.drew ?_) | (with_reducible refine bel_drewN ?_ _) | (with_reducible refine bel_grown ?_ (by assumption) ?_ ?_) | (with_reducible refine Below.setCell ?_ ?_ _) | go_size)), h9.2⟩, rfl, by go_num, by repeat' (first | (with_reducible exact Below.refl _ _) | (with_reducible assumption) | (with_reducible refine Later.step ?_ ?_ _) | (with_reducible refine Below.alloc ?_ ?_ _) | (with_reducible refine Below.drew ?_) | (with_reducible refine bel_drewN ?_ _) | (with_reducible refine bel_grown ?_ (by assumption) ?_ ?_) | (with_reducible refine Below.setCell ?_ ?_ _) | go_size), by go_size⟩
        case measure => simp [intOf]; omega
      | false =>
        go_wp2_with (first
          | (go_at_call 47; refine (P3.out _ (by repeat' (first | (with_reducible exact Below.refl _ _) | (with_reducible assumption) | (with_reducible refine Later.step ?_ ?_ _) | (with_reducible refine Below.alloc ?_ ?_ _) | (with_reducible refine Below.drew ?_) | (with_reducible refine bel_drewN ?_ _) | (with_reducible refine bel_grown ?_ (by assumption) ?_ ?_) | (with_reducible refine Below.setCell ?_ ?_ _) | go_size))).mono ?_; rintro e w' ⟨rfl, hb⟩; obtain ⟨X1, rfl, hl1, hm1⟩ := later _ hb (Nat.le_refl _); clear hb; (try simp only [World.size_alloc, World.size_setCell, World.size_drew] at hm1 hl1))
          | (at_builtin; refine wpList_append_own_at _ rfl _ _ 66 rfl w.heap.size 73 i0 (.agg #[.int .u64 (t0.s : Nat), .int .u64 (t0.p : Nat), .int .i64 t0.g.ops, .int .i64 t0.g.zoom, .int .i64 t0.g.a, .int .i64 t0.g.b, .int .i64 t0.g.c, .int .i64 t0.g.d, .bool t0.g.void, .int .i64 t0.g.til]) 10 80 Try.underlying66 hi hz0 hz1 hz2 rfl (by decide) _ _ _ rfl ((own_keep hown.out.1 (show Below X.w.heap.size X.w X1.w by repeat' (first | (with_reducible exact Below.refl _ _) | (with_reducible assumption) | (with_reducible refine Later.step ?_ ?_ _) | (with_reducible refine Below.alloc ?_ ?_ _) | (with_reducible refine Below.drew ?_) | (with_reducible refine bel_drewN ?_ _) | (with_reducible refine bel_grown ?_ (by assumption) ?_ ?_) | (with_reducible refine Below.setCell ?_ ?_ _) | go_size))).alloc _) ⟨X1.w.heap.size, 0, none⟩ 1 1 [.int .u64 (x.s : Nat), .int .u64 (x.p : Nat), .int .i64 x.g.ops, .int .i64 x.g.zoom, .int .i64 x.g.a, .int .i64 x.g.b, .int .i64 x.g.c, .int .i64 x.g.d, .bool x.g.void, .int .i64 x.g.til] rfl rfl (cells_ten_new _ _ _) (tk_ones x) (by unfold maxLen; omega) (by omega) (by go_size) ?_; intro v1 w1 hown1 hgrow1 _ _; obtain ⟨A1, k1, rfl⟩ := own_formT hown1; have hb1 : Below w.heap.size w w1 := Below.grown (Below.alloc (show Below w.heap.size w X1.w by repeat' (first | (with_reducible exact Below.refl _ _) | (with_reducible assumption) | (with_reducible refine Later.step ?_ ?_ _) | (with_reducible refine Below.alloc ?_ ?_ _) | (with_reducible refine Below.drew ?_) | (with_reducible refine bel_drewN ?_ _) | (with_reducible refine bel_grown ?_ (by assumption) ?_ ?_) | (with_reducible refine Below.setCell ?_ ?_ _) | go_size)) (by go_size) _) hgrow1 (by go_size) (fun k hk => (hown.out.1.lt k hk).1); have hs1 := hgrow1.size; have HO1 := Lib.hid hown1; clear hown1 hgrow1))
        go_roundw
        case rel =>
          have h9 := HO1.out
          have h10 := hown.out.2
          have e1 : ((T.take (k + 1)).filter fun k => !P k) = ((T.take k).filter fun k => !P k) ++ [x] := by rw [HSN.out]; simp
          rw [← tkV_snoc, ← e1] at h9
          exact ⟨k + 1, _, _, m + 1, ⟨by omega, by omega, h9, by rw [e1, List.length_append, h10]; rfl⟩, rfl, by go_num, hb1, hb1.size⟩
        case measure => simp [intOf]; omega
    · obtain rfl : k = n := by omega
      have h9 := hown.out
      rw [← HN.out, List.take_length, HM.out] at h9
      obtain rfl : M.length = m := h9.2
      have HE := Lib.hid (tab_set HT.out X.is h9.1)
      clear h9 hown
      go_wp2
      go_end0
      exact ⟨rfl, _, _, HE.out⟩
end Go.Proofs.Ytjfgjlklbepnjaa
