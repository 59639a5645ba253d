/- Counts by codes: a map that the program keeps, walked. No condition beyond what the memory holds. -/
import Derived.Test.YthoanoaigfcchaaCellG
import Derived.Maps.Own
import Derived.Maps.OwnOps
import Derived.Maps.Views
import Derived.Carry
namespace Go.Proofs.Ythoanoaigfcchaa
open Go.RowKit Go.Maps
set_option linter.unusedSimpArgs false
set_option linter.unusedVariables false
set_option maxRecDepth 2000

theorem ukey : Keyed Try.prog 25 := int_keyed Try.underlying25
theorem izero (w : World) : (zeroValue 3).run Try.prog w = .ok (.int .i64 0) w := by kernel_rfl
theorem ukey_mk {c : Nat} (h : c < 18446744073709551616) : keyOf Try.prog 25 (.int .u64 (c : Int)) = some (.int .u64 (c : Int)) := keyOf_int_mk Try.underlying25 (by simp only [Lit.wf, Bool.and_eq_true, decide_eq_true_eq]; show (0 : Int) ≤ c ∧ (c : Int) ≤ 18446744073709551615; omega)
/-- A map of counts at a block: of at most n codes, these numbers. -/
def CMap (w : World) (b n : Nat) (F : Nat → Int) : Prop :=
  ∃ D : DataW Unit, w.ownsMap Try.prog 25 (plainElem Try.prog 3) b n D ∧ Maps.IsMap D ∧ ∀ c : Nat, c < 18446744073709551616 → D.atKey (.int .u64 (c : Int)) (.lit (.int .i64 0)) = .lit (.int .i64 (F c))
section
variable {w w' : World} {b n : Nat} {F : Nat → Int}
theorem CMap.lt (h : CMap w b n F) : b < w.heap.size := by
  obtain ⟨D, h, _⟩ := h
  exact h.lt
theorem CMap.is_map (h : CMap w b n F) : ∃ es cl, w.heap[b]? = some (.map es cl) := by
  obtain ⟨D, ⟨es, cl, h, _⟩, _⟩ := h
  exact ⟨es, cl, h⟩
theorem CMap.same (h : CMap w b n F) (e : w'.heap[b]? = w.heap[b]?) : CMap w' b n F := by
  obtain ⟨D, ⟨es, cl, h, r⟩, h2⟩ := h
  exact ⟨D, ⟨es, cl, e.trans h, r⟩, h2⟩
theorem CMap.mono (h : CMap w b n F) {m : Nat} (hm : n ≤ m) : CMap w b m F := by
  obtain ⟨D, h, r⟩ := h
  exact ⟨D, h.mono hm, r⟩
theorem cmap_made (w : World) : CMap (w.alloc (.map #[] 0)) w.heap.size 0 (fun _ => 0) :=
  ⟨_, World.ownsMap_made _ _ _ _, isMap_empty, fun c _ => by rfl⟩
theorem CMap.look (h : CMap w b n F) {c : Nat} (hc : c < 18446744073709551616) : (Instr.lookup 70 (.map (some b)) (.int .u64 (c : Int)) false).run Try.prog w = .ok (.int .i64 (F c)) w := by
  obtain ⟨D, h, _, hat⟩ := h
  obtain ⟨v, hrun, h1, _⟩ := h.lookup_int ukey Try.underlying70 Try.underlying3 (izero w) (ukey_mk hc)
  rw [hat c hc] at h1
  injection h1 with h1
  injection h1 with _ h1
  rw [hrun, h1]
theorem CMap.put (h : CMap w b n F) (hn : n < 9223372036854775807) {c : Nat} (hc : c < 18446744073709551616) {v : Int} (hv : (Lit.int .i64 v).wf = true) :
    ∃ w', (Instr.mapUpdate 70 (.map (some b)) (.int .u64 (c : Int)) (.int .i64 v)).run Try.prog w = .ok () w' ∧ CMap w' b (n + 1) (fun d => if d = c then v else F d) ∧ w.grownBy w' (some b) := by
  obtain ⟨D, h, hm, hat⟩ := h
  obtain ⟨w', hrun, h1, h2⟩ := h.update ukey Try.underlying70 (by unfold maxLen; omega) (ukey_mk hc) (plainElem_int Try.underlying3 hv)
  refine ⟨w', hrun, ⟨_, h1, hm.put _ _, fun d hd => ?_⟩, h2⟩
  by_cases e : d = c
  · subst e
    simp only [if_true]
    exact atKey_put_same hm (by first | trivial | exact .inl ⟨_, _, rfl⟩ | simp [WideAt.IsKeyLit]) _ _
  · simp only [e, if_false]
    rw [atKey_put_other (fun h => e (by injection h with _ h; omega))]
    exact hat d hd
end

/-- A pyramid at a block: a map of counts for each level. -/
structure Pyr (w : World) (q n : Nat) (F : Nat → Nat → Int) : Prop where
  lt : q < w.heap.size
  ex : ∃ Bs : Nat → Nat, (∀ l, l < 17 → w.cell? ⟨q, l, none⟩ = some (.map (some (Bs l)))) ∧ (∀ l, l < 17 → q < Bs l) ∧ (∀ l k, l < 17 → k < 17 → Bs l = Bs k → l = k) ∧ ∀ l, l < 17 → CMap w (Bs l) n (F l)
/-- All that is no map is as it was. -/
structure KeptM (w w' : World) : Prop where
  os : w'.os = w.os
  tape : w'.tape = w.tape
  output : w'.output = w.output
  size : w.heap.size ≤ w'.heap.size
  block : ∀ k, k < w.heap.size → (∀ es cl, w.heap[k]? ≠ some (.map es cl)) → w'.heap[k]? = w.heap[k]?
theorem KeptM.trans {a b c : World} (h : KeptM a b) (h' : KeptM b c) : KeptM a c :=
  ⟨h'.os.trans h.os, h'.tape.trans h.tape, h'.output.trans h.output, Nat.le_trans h.size h'.size, fun k hk hn => by
    have e := h.block k hk hn
    exact (h'.block k (Nat.lt_of_lt_of_le hk h.size) (fun es cl => by rw [e]; exact hn es cl)).trans e⟩
theorem keptM_refl (w : World) : KeptM w w := ⟨rfl, rfl, rfl, Nat.le_refl _, fun _ _ _ => rfl⟩
theorem keptM_below {w w' : World} (h : Below w.heap.size w w') : KeptM w w' := ⟨h.os, h.tape, h.output, h.size, fun k hk _ => h.block k hk⟩
theorem keptM_grown {w w' : World} {b : Nat} (h : w.grownBy w' (some b)) (hb : ∃ es cl, w.heap[b]? = some (.map es cl)) : KeptM w w' :=
  ⟨h.os, h.tape, h.output, h.size, fun k hk hn => h.block k hk (fun e => by
    injection e with e
    subst e
    obtain ⟨es, cl, hm⟩ := hb
    exact hn es cl hm)⟩
theorem Pyr.keep {w w' : World} {q n : Nat} {F : Nat → Nat → Int} (h : Pyr w q n F) (hb : Below w.heap.size w w') : Pyr w' q n F := by
  obtain ⟨lt, Bs, h1, h2, h3, h4⟩ := h
  exact ⟨Nat.lt_of_lt_of_le lt hb.size, Bs, fun l hl => (hb.cell (p := ⟨q, l, none⟩) lt).trans (h1 l hl), h2, h3, fun l hl => (h4 l hl).same (hb.block _ (h4 l hl).lt)⟩
theorem Pyr.mono {w : World} {q n m : Nat} {F : Nat → Nat → Int} (h : Pyr w q n F) (hm : n ≤ m) : Pyr w q m F := by
  obtain ⟨lt, Bs, h1, h2, h3, h4⟩ := h
  exact ⟨lt, Bs, h1, h2, h3, fun l hl => (h4 l hl).mono hm⟩
theorem Pyr.congr {w : World} {q n : Nat} {F G : Nat → Nat → Int} (h : Pyr w q n F) (e : ∀ l c, F l c = G l c) : Pyr w q n G := by
  have : F = G := funext fun l => funext fun c => e l c
  rw [← this]
  exact h
/-- One count turned. -/
def upF (F : Nat → Nat → Int) (l c : Nat) (v : Int) : Nat → Nat → Int := fun k d => if k = l ∧ d = c then v else F k d
theorem Pyr.put {w w' : World} {q n l c : Nat} {v : Int} {F : Nat → Nat → Int} {Bs : Nat → Nat} (lt : q < w.heap.size) (h1 : ∀ l, l < 17 → w.cell? ⟨q, l, none⟩ = some (.map (some (Bs l)))) (h2 : ∀ l, l < 17 → q < Bs l) (h3 : ∀ l k, l < 17 → k < 17 → Bs l = Bs k → l = k) (h4 : ∀ l, l < 17 → CMap w (Bs l) n (F l))
    (hl : l < 17) (hm : CMap w' (Bs l) (n + 1) (fun d => if d = c then v else F l d)) (hg : w.grownBy w' (some (Bs l))) : Pyr w' q (n + 1) (upF F l c v) ∧ KeptM w w' ∧ Below (q + 1) w w' := by
  have hb : Below (q + 1) w w' := ⟨hg.os, hg.tape, hg.output, hg.size, fun k hk => hg.block k (by omega) (fun e => by injection e with e; have := h2 l hl; omega)⟩
  refine ⟨⟨Nat.lt_of_lt_of_le lt hg.size, Bs, fun k hk => (hb.cell (p := ⟨q, k, none⟩) (by simp)).trans (h1 k hk), h2, h3, fun k hk => ?_⟩, keptM_grown hg (h4 l hl).is_map, hb⟩
  by_cases e : k = l
  · subst e
    obtain ⟨D, a, b, hat⟩ := hm
    refine ⟨D, a, b, fun d hd => ?_⟩
    rw [hat d hd]
    unfold upF
    by_cases e : d = c <;> simp [e]
  · have h9 := (h4 k hk).same (hg.block _ (h4 k hk).lt (fun e9 => by injection e9 with e9; exact e (h3 k l hk hl e9)))
    obtain ⟨D, a, b, hat⟩ := h9.mono (Nat.le_succ n)
    refine ⟨D, a, b, fun d hd => ?_⟩
    rw [hat d hd]
    unfold upF
    simp [e]
set_option maxHeartbeats 4000000 in
theorem turn_any (q n l c : Nat) (F : Nat → Nat → Int) (w : World) (h : Pyr w q n F) (hl : l < 17) (hc : c < 18446744073709551616) (hn : n < 1000000) (hF : 0 ≤ F l c ∧ F l c ≤ 1000000) :
    Calls Try.prog 42 #[.pointer (some ⟨q, 0, none⟩), .int .i64 l, .int .u64 c, .int .i64 1] w fun e w' => e = .returned (.tuple #[]) ∧ Pyr w' q (n + 1) (upF F l c (F l c + 1)) ∧ KeptM w w' ∧ Below (q + 1) w w' := by
  obtain ⟨lt, Bs, h1, h2, h3, h4⟩ := h
  have d1 := h1 l hl
  have hrun := (h4 l hl).look hc
  obtain ⟨w', hput, hm, hg⟩ := (h4 l hl).put (by omega) hc (v := F l c + 1) (by simp only [Lit.wf, Bool.and_eq_true, decide_eq_true_eq]; show (-9223372036854775808 : Int) ≤ F l c + 1 ∧ F l c + 1 ≤ 9223372036854775807; omega)
  have HP := Lib.hid (Pyr.put lt h1 h2 h3 h4 hl hm hg)
  clear h1 h2 h3 h4 hm hg
  obtain ⟨v, hv⟩ : ∃ v, F l c = v := ⟨_, rfl⟩
  rw [hv] at hrun hput hF HP
  obtain ⟨B, hB⟩ : ∃ B, Bs l = B := ⟨_, rfl⟩
  rw [hB] at d1 hrun hput
  have HV := Lib.hid hv
  clear hv hB
  go_enter Try.func42, Try.ntmps42
  go_wp2
  go_end0
  rw [HV.out]
  exact ⟨rfl, HP.out⟩
theorem cell_heap {w : World} {b j : Nat} {cs : Array Value} {t : TypeId} {fz : Nat × Nat} {v : Value} (h : w.heap[b]? = some (.cells cs t fz)) (hv : cs[j]? = some v) : w.cell? ⟨b, j, none⟩ = some v := by
  simp [World.cell?, h, hv]
/-- A block of cells that may be written. -/
def CellsAt (w : World) (b n : Nat) (F : Nat → Value) : Prop := b < w.heap.size ∧ ∀ j, j < n → w.cell? ⟨b, j, none⟩ = some (F j) ∧ w.frozen? ⟨b, j, none⟩ = false
theorem CellsAt.grown {w w' : World} {b n q : Nat} {F : Nat → Value} (h : CellsAt w b n F) (hg : w.grownBy w' (some q)) (hq : b ≠ q) : CellsAt w' b n F :=
  ⟨Nat.lt_of_lt_of_le h.1 hg.size, fun j hj => by
    have e := hg.block b h.1 (fun e => by injection e with e; exact hq e)
    exact ⟨(World.cell?_of_block (a := ⟨b, j, none⟩) e).trans (h.2 j hj).1, (World.frozen?_of_block (a := ⟨b, j, none⟩) e).trans (h.2 j hj).2⟩⟩
theorem CellsAt.keep {w w' : World} {b n : Nat} {F : Nat → Value} (h : CellsAt w b n F) (hb : Below w.heap.size w w') : CellsAt w' b n F :=
  ⟨Nat.lt_of_lt_of_le h.1 hb.size, fun j hj => ⟨(hb.cell (p := ⟨b, j, none⟩) h.1).trans (h.2 j hj).1, (hb.frozen (p := ⟨b, j, none⟩) h.1).trans (h.2 j hj).2⟩⟩
theorem CellsAt.congr {w : World} {b n : Nat} {F G : Nat → Value} (h : CellsAt w b n F) (e : ∀ j, j < n → F j = G j) : CellsAt w b n G := ⟨h.1, fun j hj => by rw [← e j hj]; exact h.2 j hj⟩
theorem CellsAt.set {w : World} {b n j : Nat} {F : Nat → Value} (h : CellsAt w b n F) (hj : j < n) (v : Value) : CellsAt (w.setCell ⟨b, j, none⟩ v) b n (fun i => if i = j then v else F i) := by
  refine ⟨by rw [World.size_setCell]; exact h.1, fun i hi => ?_⟩
  have h1 := h.2 i hi
  have h2 := h.2 j hj
  have hlt := h.1
  by_cases e : i = j
  · subst e
    exact ⟨by go_simp, by go_simp⟩
  · exact ⟨by go_simp, by go_simp⟩
theorem CellsAt.other {w : World} {b n : Nat} {p : Addr} {F : Nat → Value} (h : CellsAt w b n F) (hp : p.block ≠ b) (v : Value) : CellsAt (w.setCell p v) b n F := by
  refine ⟨by rw [World.size_setCell]; exact h.1, fun i hi => ?_⟩
  have e := Below.heap_setCell w p v b (fun e => hp e.symm)
  exact ⟨(World.cell?_of_block (a := ⟨b, i, none⟩) e).trans (h.2 i hi).1, (World.frozen?_of_block (a := ⟨b, i, none⟩) e).trans (h.2 i hi).2⟩
theorem CellsAt.new {w : World} {n : Nat} {F : Nat → Value} {C : Array Value} {t : TypeId} (h : ∀ j, j < n → C[j]? = some (F j)) : CellsAt (w.alloc (Obj.cells C t)) w.heap.size n F := by
  refine ⟨by rw [World.size_alloc]; omega, fun j hj => ⟨cell_heap (heap_alloc_new w _) (h j hj), ?_⟩⟩
  have h9 := heap_alloc_new w (Obj.cells C t)
  unfold World.frozen?
  simp only [h9]
  simp
/-- What New leaves. -/
def NewPost (w : World) (e : Ending) (w' : World) : Prop := ∃ q, e = .returned (.pointer (some ⟨q, 0, none⟩)) ∧ Pyr w' q 0 (fun _ _ => 0) ∧ w.heap.size ≤ q ∧ Below w.heap.size w w'
def newC (b k j : Nat) : Value := if j < k then .map (some (b + 1 + j)) else .map none
set_option maxHeartbeats 4000000 in
theorem new_any (w : World) : Calls Try.prog 25 #[] w (NewPost w) := by
  have hmm := @run_makeMap Try.prog
  have hc0 : CellsAt (w.alloc (Obj.cells #[.map none, .map none, .map none, .map none, .map none, .map none, .map none, .map none, .map none, .map none, .map none, .map none, .map none, .map none, .map none, .map none, .map none] 73)) w.heap.size 17 (newC w.heap.size 0) := CellsAt.new fun j hj => by
    rcases (show j = 0 ∨ j = 1 ∨ j = 2 ∨ j = 3 ∨ j = 4 ∨ j = 5 ∨ j = 6 ∨ j = 7 ∨ j = 8 ∨ j = 9 ∨ j = 10 ∨ j = 11 ∨ j = 12 ∨ j = 13 ∨ j = 14 ∨ j = 15 ∨ j = 16 by omega) with rfl | rfl | rfl | rfl | rfl | rfl | rfl | rfl | rfl | rfl | rfl | rfl | rfl | rfl | rfl | rfl | rfl <;> rfl
  have HC0 := Lib.hid hc0
  clear hc0
  go_enter Try.func25, Try.ntmps25
  go_wp2
  go_loopw [5] (fun i wr => ∃ k : Nat, k ≤ 17 ∧ i = .int .i64 k ∧ Hid (CellsAt wr w.heap.size 17 (newC w.heap.size k)) ∧ Hid (∀ j, j < k → CMap wr (w.heap.size + 1 + j) 0 (fun _ => 0)) ∧ wr.heap.size = w.heap.size + 1 + k ∧ Below w.heap.size w wr) (fun i _ => 17 - (intOf i).toNat)
  case atStart => exact ⟨0, by omega, rfl, HC0.out, (fun j hj => absurd hj (by omega)), by simp, by repeat' (first | (with_reducible exact Below.refl _ _) | (with_reducible assumption) | (with_reducible refine Later.step ?_ ?_ _) | (with_reducible refine Below.alloc ?_ ?_ _) | (with_reducible refine Below.drew ?_) | (with_reducible refine Below.setCell ?_ ?_ _) | go_size)⟩
  case round =>
    obtain ⟨k, hk, rfl, hca, hcm, hsz, hb⟩ := hrel
    have HSZ := Lib.hid hsz
    have hsz2 : w.heap.size < wr.heap.size := by omega
    obtain ⟨X, rfl⟩ : ∃ Z : Later w.heap.size w, wr = Z.w := ⟨⟨wr, hb⟩, rfl⟩
    clear hb hsz
    by_cases hlt : k < 17
    · obtain ⟨d, z⟩ := hca.out.2 k hlt
      go_wp2
      go_roundw
      case rel =>
        refine ⟨k + 1, by omega, by go_num, ?_, ?_, ?_, ?_⟩
        · have h9 := ((hca.out.set hlt (.map (some X.w.heap.size))).congr (G := newC w.heap.size (k + 1)) (fun j hj => by
            unfold newC
            by_cases e : j = k
            · subst e
              rw [if_pos rfl, if_pos (by omega), HSZ.out]
            · rw [if_neg e]
              by_cases h : j < k
              · rw [if_pos h, if_pos (by omega)]
              · rw [if_neg h, if_neg (by omega)])).keep ((Below.refl _ _).alloc (Nat.le_refl _) (.map #[] 0))
          exact h9
        · intro j hj
          have h8 : ∀ b, w.heap.size ≠ b → (X.w.setCell ⟨w.heap.size, k, none⟩ (.map (some X.w.heap.size))).heap[b]? = X.w.heap[b]? := fun b hb => Below.heap_setCell _ ⟨w.heap.size, k, none⟩ _ b (fun e => hb e.symm)
          rcases (show j < k ∨ j = k by omega) with h | rfl
          · have hm := (hcm.out j h).same (h8 (w.heap.size + 1 + j) (by omega))
            exact hm.same (heap_alloc_old _ _ hm.lt)
          · have hm := cmap_made (X.w.setCell ⟨w.heap.size, j, none⟩ (.map (some X.w.heap.size)))
            rw [World.size_setCell, HSZ.out] at hm
            rw [HSZ.out]
            exact hm
        · simp
          have := HSZ.out
          omega
        · repeat' (first | (with_reducible exact Below.refl _ _) | (with_reducible assumption) | (with_reducible refine Later.step ?_ ?_ _) | (with_reducible refine Below.alloc ?_ ?_ _) | (with_reducible refine Below.drew ?_) | (with_reducible refine Below.setCell ?_ ?_ _) | go_size)
      case measure => simp [intOf]; omega
    · go_wp2
      go_ret
      have hk17 : k = 17 := by omega
      refine ⟨w.heap.size, rfl, ⟨by omega, fun l => w.heap.size + 1 + l, fun l hl => ?_, fun l hl => (show w.heap.size < w.heap.size + 1 + l by omega), fun l k hl hk (h : w.heap.size + 1 + l = w.heap.size + 1 + k) => by omega, fun l hl => hcm.out l (by omega)⟩, Nat.le_refl _, X.is⟩
      have h9 := (hca.out.2 l hl).1
      unfold newC at h9
      rwa [if_pos (by omega)] at h9
end Go.Proofs.Ythoanoaigfcchaa
