/- A part of one proof: GeomS TpP Aid Tail GeomA Bits Cells. No condition. -/
import Derived.Test.YthlijfligikciaaGreatChecked
import Derived.WalkKit
import Derived.Handy
import Derived.WalkLawsBesides
import Derived.WalkSpells
import Derived.Lib.MinMax
import Derived.Lib.Hide
import Derived.Deep.Quiet
import Derived.Deep.QuietTactic
import Derived.BigQuiet
import Derived.StillTail
import Derived.Laws.BitsAllLaws
import Derived.Carry
namespace Go.Proofs.YthlijfligikciaaGreat
def fitsB (x y:Int):Bool:=decide (0≤x∧x≤65535∧0≤y∧y≤65535)
def rightB (a b c d:Int):Bool:=decide (0≤a∧a≤65535∧0≤b∧b≤65535∧0≤c∧c≤65535∧0≤d∧d≤65535∧a≤c∧b≤d)
def hasB (a b c d x y:Int):Bool:=decide (rightB a b c d=true∧a≤x∧x≤c∧b≤y∧y≤d)
def inB (a b c d a' b' c' d':Int):Bool:=decide (rightB a b c d=true∧rightB a' b' c' d'=true∧a'≤a∧c≤c'∧b'≤b∧d≤d')
def meetsB (a b c d a' b' c' d':Int):Bool:=decide (rightB a b c d=true∧rightB a' b' c' d'=true∧a≤c'∧a'≤c∧b≤d'∧b'≤d)
def sel (m:Bool) (x:Int):Int:=if m then x else 0
def areaI (a b c d:Int):Int:=if rightB a b c d then (c - a+1)*(d - b+1) else 0
def gapI (n a b:Int):Int:=if n < a then a - n else if n > b then n - b else 0
def distI (a b c d x y:Int):Int:=if rightB a b c d && fitsB x y then gapI x a c*gapI x a c+gapI y b d*gapI y b d else 0
def apartI (x y x' y':Int):Int:=if fitsB x y && fitsB x' y' then (x - x')*(x - x')+(y - y')*(y - y') else 0
def clampI (n lo hi:Int):Int:=max lo (min hi n)
theorem fits_iff {x y:Int}:fitsB x y=true↔0≤x∧x≤65535∧0≤y∧y≤65535:=by simp [fitsB]
theorem right_iff {a b c d:Int}:rightB a b c d=true↔0≤a∧a≤65535∧0≤b∧b≤65535∧0≤c∧c≤65535∧0≤d∧d≤65535∧a≤c∧b≤d:=by simp [rightB]
theorem has_iff {a b c d x y:Int}:hasB a b c d x y=true↔rightB a b c d=true∧a≤x∧x≤c∧b≤y∧y≤d:=by simp [hasB]
theorem in_iff {a b c d a' b' c' d':Int}:inB a b c d a' b' c' d'=true↔rightB a b c d=true∧rightB a' b' c' d'=true∧a'≤a∧c≤c'∧b'≤b∧d≤d':=by simp [inB]
theorem meets_iff {a b c d a' b' c' d':Int}:meetsB a b c d a' b' c' d'=true↔rightB a b c d=true∧rightB a' b' c' d'=true∧a≤c'∧a'≤c∧b≤d'∧b'≤d:=by simp [meetsB]
theorem sel_true (x:Int):sel true x=x:=rfl
theorem sq_bd {u:Int} (h0 : -65535≤u) (h1:u≤65535):0≤u*u∧u*u≤4294836225:=by
 have h:0≤u*u:=by
  rcases Int.le_total 0 u with h|h
  ·exact Int.mul_nonneg h h
  ·exact Int.mul_nonneg_of_nonpos_of_nonpos h h
 refine ⟨h,?_⟩
 rcases Int.le_total 0 u with h|h
 ·calc u*u≤65535*u:=Int.mul_le_mul_of_nonneg_right h1 h
   _≤4294836225:=by omega
 ·have e:u*u=(-u)*(-u):=by rw [Int.neg_mul_neg]
  rw [e]
  calc (-u)*(-u)≤65535*(-u):=Int.mul_le_mul_of_nonneg_right (by omega) (by omega)
   _≤4294836225:=by omega
theorem mul_bd {u v:Int} (hu0:0≤u) (hu1:u≤65536) (hv0:0≤v) (hv1:v≤65536):0≤u*v∧u*v≤4294967296:=by
 refine ⟨Int.mul_nonneg hu0 hv0,?_⟩
 calc u*v≤65536*v:=Int.mul_le_mul_of_nonneg_right hu1 hv0
  _≤4294967296:=by omega
theorem clamp_gap {n a b:Int} (h:a≤b):(n - clampI n a b)*(n - clampI n a b)=gapI n a b*gapI n a b:=by
 unfold clampI gapI
 by_cases h1:n < a
 ·rw [if_pos h1,show max a (min b n)=a by omega,show n - a = -(a - n) by omega,Int.neg_mul_neg]
 ·rw [if_neg h1]
  by_cases h2:n > b
  ·rw [if_pos h2,show max a (min b n)=b by omega]
  ·rw [if_neg h2,show max a (min b n)=n by omega];simp
theorem right_pt {x y:Int}:rightB x y x y=fitsB x y:=by
 rw [Bool.eq_iff_iff,right_iff,fits_iff];omega
theorem dist_apart {a b c d x y:Int} (h:rightB a b c d=true) (hf:fitsB x y=true):apartI x y (clampI x a c) (clampI y b d)=distI a b c d x y:=by
 have g:=right_iff.1 h
 have f:=fits_iff.1 hf
 have k:fitsB (clampI x a c) (clampI y b d)=true:=by rw [fits_iff];unfold clampI;omega
 unfold distI apartI
 rw [h,hf,k,clamp_gap g.2.2.2.2.2.2.2.2.1,clamp_gap g.2.2.2.2.2.2.2.2.2]
end Go.Proofs.YthlijfligikciaaGreat
namespace Go.Proofs.YthlijfligikciaaGreat
set_option linter.unusedSimpArgs false
set_option linter.unusedVariables false
set_option maxRecDepth 2000
structure Bx where
 a:Int
 b:Int
 c:Int
 d:Int
structure Rl where
 kind:Int
 roles:Int
 lo:Int
 hi:Int
 labels:Int
 boxes:List Bx
 zoom:Int
def bx0:Bx:=⟨0,0,0,0⟩
def rl0:Rl:=⟨0,0,0,0,0,[],0⟩
def rightX (b:Bx):Bool:=rightB b.a b.b b.c b.d
def hasX (b:Bx) (x y:Int):Bool:=hasB b.a b.b b.c b.d x y
def smallB (n m:Int):Bool:=decide (0≤n∧n≤m)
def rightR (r:Rl):Bool:=
 if r.kind=6 then smallB r.roles 255 && decide (r.lo=0) && decide (r.hi=0) && decide (r.labels=0) && decide (r.boxes.length=0) && decide (r.zoom=0)
 else if r.kind=4∨r.kind=5 then smallB r.roles 255 && decide (0≤r.lo) && decide (r.lo≤r.hi) && decide (r.hi≤7) && smallB r.labels 255 && r.boxes.all rightX && smallB r.zoom 16
 else false
def inS (s n:Int):Bool:=decide (s.toNat / 2 ^ n.toNat % 2=1)
def numsB (a b c:Int):Bool:=smallB a 7 && smallB b 7 && smallB c 7
def forR (r:Rl) (a b c:Int):Bool:=rightR r && decide (r.kind≠6) && numsB a b c && inS r.roles a && decide (r.lo≤b) && decide (b≤r.hi) && inS r.labels c
def hasL (l:List Bx) (x y:Int):Bool:=l.any fun b=>hasX b x y
def stepZ (x y:Int) (s:Int × Int) (r:Rl):Int × Int:=if hasL r.boxes x y=true then (if r.kind=4 then (max s.1 r.zoom,s.2) else (s.1,min s.2 r.zoom)) else s
def foldZ (l:List Rl) (x y:Int):Int × Int:=l.foldl (stepZ x y) (0,16)
def zoomF (l:List Rl) (x y:Int):Int:=min (foldZ l x y).1 (foldZ l x y).2
def mineR (l:List Rl) (a b c:Int):List Rl:=l.filter fun r=>forR r a b c
theorem rightR_zoom {r:Rl} (h:rightR r=true):0≤r.zoom∧r.zoom≤16:=by
 unfold rightR smallB at h
 split at h
 ·simp at h;omega
 ·split at h
  ·simp at h;omega
  ·cases h
theorem rightR_roles {r:Rl} (h:rightR r=true):0≤r.roles∧r.roles≤255:=by
 unfold rightR smallB at h
 split at h
 ·simp at h;omega
 ·split at h
  ·simp at h;omega
  ·cases h
theorem rightR_labels {r:Rl} (h:rightR r=true):0≤r.labels∧r.labels≤255:=by
 unfold rightR smallB at h
 split at h
 ·simp at h;omega
 ·split at h
  ·simp at h;omega
  ·cases h
theorem rightR_boxes {r:Rl} (h:rightR r=true):∀ b ∈ r.boxes,rightX b=true:=by
 unfold rightR at h
 split at h
 ·simp at h
  intro b hb
  have h9:r.boxes=[]:=h.1.2
  rw [h9] at hb
  cases hb
 ·split at h
  ·simp at h
   exact h.1.2
  ·cases h
theorem fold_snoc (l:List Rl) (r:Rl) (x y:Int):foldZ (l ++ [r]) x y=stepZ x y (foldZ l x y) r:=by simp [foldZ]
theorem fold_range {l:List Rl} (h:∀ r ∈ l,0≤r.zoom∧r.zoom≤16) (x y:Int):0≤(foldZ l x y).1∧(foldZ l x y).1≤16∧0≤(foldZ l x y).2∧(foldZ l x y).2≤16:=by
 have key:∀ (l:List Rl) (s:Int × Int),(∀ r ∈ l,0≤r.zoom∧r.zoom≤16)→(0≤s.1∧s.1≤16∧0≤s.2∧s.2≤16)→0≤(l.foldl (stepZ x y) s).1∧(l.foldl (stepZ x y) s).1≤16∧0≤(l.foldl (stepZ x y) s).2∧(l.foldl (stepZ x y) s).2≤16:=by
  intro l
  induction l with
  | nil=>intro s _ h;exact h
  | cons r l ih=>
   intro s h hs
   rw [List.foldl_cons]
   refine ih _ (fun q hq=>h q (by simp [hq])) ?_
   have:=h r (by simp)
   unfold stepZ
   split
   ·split
    ·simp only;omega
    ·simp only;omega
   ·exact hs
 exact key l (0,16) h ⟨by decide,by decide,by decide,by decide⟩
theorem zoom_same {l:List Rl} {x y x' y':Int} (h:∀ r ∈ l,hasL r.boxes x y=hasL r.boxes x' y'):zoomF l x y=zoomF l x' y':=by
 have key:∀ (l:List Rl) (s:Int × Int),(∀ r ∈ l,hasL r.boxes x y=hasL r.boxes x' y')→l.foldl (stepZ x y) s=l.foldl (stepZ x' y') s:=by
  intro l
  induction l with
  | nil=>intro s _;rfl
  | cons r l ih=>
   intro s h
   rw [List.foldl_cons,List.foldl_cons,ih _ (fun q hq=>h q (by simp [hq]))]
   congr 1
   unfold stepZ
   rw [h r (by simp)]
 unfold zoomF foldZ
 rw [key l _ h]
theorem zoom_none {l:List Rl} {x y:Int} (hr:∀ r ∈ l,0≤r.zoom∧r.zoom≤16) (h:∀ r ∈ l,hasL r.boxes x y=false):zoomF l x y=0:=by
 have key:∀ (l:List Rl) (s:Int × Int),(∀ r ∈ l,hasL r.boxes x y=false)→l.foldl (stepZ x y) s=s:=by
  intro l
  induction l with
  | nil=>intro s _;rfl
  | cons r l ih=>
   intro s h
   rw [List.foldl_cons,ih _ (fun q hq=>h q (by simp [hq]))]
   unfold stepZ
   rw [h r (by simp)]
   rfl
 unfold zoomF foldZ
 rw [key l _ h]
 rfl
theorem zoom_range {l:List Rl} (h:∀ r ∈ l,0≤r.zoom∧r.zoom≤16) (x y:Int):0≤zoomF l x y∧zoomF l x y≤16:=by
 have:=fold_range h x y
 unfold zoomF
 omega
end Go.Proofs.YthlijfligikciaaGreat
namespace Go.Proofs.YthlijfligikciaaGreat
open Go.RowKit
structure Later (B:Nat) (W:World) where
 w:World
 is:Below B W w
instance (B:Nat) (W:World):Nonempty (Later B W):=⟨⟨W,Below.refl _ _⟩⟩
abbrev Under (b B:Nat):Prop:=¬ ((⟨b,0,none⟩:Addr)=⟨max b B,0,none⟩)
theorem Under.lt {b B:Nat} (h:Under b B):b < B:=by
 rcases Nat.lt_or_ge b B with h'|h'
 ·exact h'
 ·exact absurd (by rw [Nat.max_eq_left h']) h
@[go_sem] theorem Later.cell {B:Nat} {W:World} (X:Later B W) {b o:Nat} (h:Under b B):X.w.cell? ⟨b,o,none⟩=W.cell? ⟨b,o,none⟩:=X.is.cell (p:=⟨b,o,none⟩) h.lt
@[go_sem] theorem Later.frozen {B:Nat} {W:World} (X:Later B W) {b o:Nat} (h:Under b B):X.w.frozen? ⟨b,o,none⟩=W.frozen? ⟨b,o,none⟩:=X.is.frozen (p:=⟨b,o,none⟩) h.lt
@[go_sem] theorem cell_past (w:World) (o:Obj) (n i:Nat) (h:Under n w.heap.size):(w.alloc o).cell? ⟨n,i,none⟩=w.cell? ⟨n,i,none⟩:=World.cell?_alloc_past o n i h.lt
@[go_sem] theorem frozen_past (w:World) (o:Obj) (n i:Nat) (h:Under n w.heap.size):(w.alloc o).frozen? ⟨n,i,none⟩=w.frozen? ⟨n,i,none⟩:=World.frozen?_alloc_past o n i h.lt
theorem later {W w1:World} (B:Nat) (hb:Below W.heap.size W w1) (hB:B≤W.heap.size):∃ X:Later B W,w1=X.w∧B≤X.w.heap.size∧W.heap.size≤X.w.heap.size:=
 ⟨⟨w1,hb.mono hB⟩,rfl,Nat.le_trans hB hb.size,hb.size⟩
theorem Later.step {b B:Nat} {w W:World} (h:Below b w W) (hb:b≤B) (X:Later B W):Below b w X.w:=h.trans (X.is.mono hb)
theorem ret_b {a b:Bool} (h:a=b):Ending.returned (.bool a) = .returned (.bool b):=by rw [h]
theorem ret_i {k:IntKind} {a b:Int} (h:a=b):Ending.returned (.int k a) = .returned (.int k b):=by rw [h]
theorem iff_b {a b:Bool} (h:a=true↔b=true):a=b:=Bool.eq_iff_iff.2 h
section
variable {P:Program} {ops:Array Oper}
theorem quiet_weak {C:World→Prop} {Q1 Q2:Act→Prop} (hq:∀ a,Q1 a→Q2 a):∀ (m:List Oper) (a:Act),wpQuiet P ops C Q1 m a→wpQuiet P ops C Q2 m a
 | [],a,h=>hq a h
 | o :: m,a,h=>by
  simp only [wpQuiet] at h ⊢
  split
  ·rename_i hw;rw [if_pos hw] at h;exact Oper.quiet_mono (quiet_weak hq m) h
  ·rename_i hw;rw [if_neg hw] at h;exact quiet_weak hq m _ h
theorem wp_region_later {id:Nat} {Q:Exit→Act→World→Prop} {a:Act} {w:World} {l:List Oper} (B:Nat) (hm:P.follows .mixedOrders=true) (hB:Region.lexB .any l.toArray=true) (h0:B≤w.heap.size)
  (h:wpQuiet P l.toArray (fun w'=>∃ X:Later B w,w'=X.w) (fun a'=>∀ X:Later B w,B≤X.w.heap.size→w.heap.size≤X.w.heap.size→Q .normal a' X.w) l a):(Code.region id l.toArray true).wp P Q a w:=by
 have hd:Below B w { w with drawn:=w.drawn+1 }:=⟨rfl,rfl,rfl,Nat.le_refl _,fun _ _=>rfl⟩
 refine wp_region_quiet (C:=fun w'=>∃ X:Later B w,w'=X.w) hm hB ⟨⟨_,hd⟩,rfl⟩ ?_
 have h':=quiet_weak (Q2:=fun a'=>∀ w',(∃ X:Later B w,w'=X.w)→Q .normal a' w') (fun a' ha w' ⟨X,hX⟩=>by subst hX;exact ha X (Nat.le_trans h0 X.is.size) X.is.size) l a h
 simpa using h'
theorem Later.call {B:Nat} {W:World} (X:Later B W) {f:FuncId} {args:Array Value} {v:Value} (hB:B≤X.w.heap.size) (h:Calls P f args X.w fun e w'=>e = .returned v∧Below X.w.heap.size X.w w'):
  Calls P f args X.w fun e w''=>e = .returned v∧∃ Y:Later B W,w''=Y.w:=
 h.mono fun _ w' ⟨he,hb⟩=>⟨he,⟨w',X.is.trans (hb.mono hB)⟩,rfl⟩
end
theorem q9r (B:Nat) (w:World):Below B w w:=Below.refl B w
theorem q9s {b B:Nat} {w W:World} (h:Below b w W) (hb:b≤B) (X:Later B W):Below b w X.w:=Later.step h hb X
theorem q9a {B:Nat} {a w:World} (h:Below B a w) (hB:B≤w.heap.size) (o:Obj):Below B a (w.alloc o):=Below.alloc h hB o
theorem q9d {B:Nat} {a w:World} (h:Below B a w):Below B a w.drew:=Below.drew h
theorem q9c {B:Nat} {a w:World} (h:Below B a w) {p:Addr} (hp:B≤p.block) (u:Value):Below B a (w.setCell p u):=Below.setCell h hp u
theorem q9A (w:World) (o:Obj):(w.alloc o).heap.size=w.heap.size+1:=World.size_alloc w o
theorem q9B (w:World) (a:Addr) (v:Value):(w.setCell a v).heap.size=w.heap.size:=World.size_setCell w a v
theorem q9D (w:World):w.drew.heap.size=w.heap.size:=World.size_drew w
theorem q9o {B:Nat} {a b:World} (h:Below B a b:=by repeat' first|(with_reducible first|exact q9r _ _|assumption|refine q9s ?_ ?_ _|refine q9a ?_ ?_ _|refine q9d ?_|refine q9c ?_ ?_ _)|go_size):Below B a b:=h
section
variable {P:Program} {ops:Array Oper} {md:Region.Mode} {C:World→Prop}
def headQ (P:Program) (md:Region.Mode) (ops:Array Oper) (C:World→Prop) (n:Nat) (L:Array Bool→Act→Prop):Nat→Array Bool→Act→Prop
 | 0,seen,a=>L seen a
 | f+1,seen,a=>Region.ready md ops seen≠[]∧∀ i ∈ Region.ready md ops seen,i < n∧qOp P ops C i (headQ P md ops C n L f (seen.setIfInBounds i true)) a
theorem headQ_any {n g:Nat} {L:Array Bool→Act→Prop} {Q':Exit→Act→World→Prop} (hL:∀ seen a w,C w→L seen a→wpAny P md ops Q' g seen a w):
  ∀ (f:Nat) (seen:Array Bool) (a:Act) (w:World),C w→headQ P md ops C n L f seen a→wpAny P md ops Q' (f+g) seen a w
 | 0,seen,a,w,hw,h=>by rw [Nat.zero_add];exact hL _ _ _ hw h
 | f+1,seen,a,w,hw,h=>by
  rw [show f+1+g=(f+g)+1 by omega]
  exact ⟨fun h0=>absurd h0 h.1,fun i hi=>wpOp_of_qOp hw (fun a' w' hw' h'=>headQ_any hL f _ a' w' hw' h') (h.2 i hi).2⟩
theorem headQ_first {n i:Nat} {oi:Oper} {v:Value} {L:Array Bool→Act→Prop} (hi:ops[i]? = some oi) (hsel:∀ (j:Nat) (o:Oper) cs b,ops[j]? = some o→o.op ≠ .select cs b)
  (hs:Region.sinkB md ops n=true) (hc:Region.chainB md ops n=true) (hn:n < ops.size) (hin:i < n)
  (hdone:∀ seen a,L seen a→∀ j ∈ Region.ready md ops seen,n≤j):
  ∀ (f:Nat) (seen:Array Bool) (a:Act),HeadInv md ops n seen→
   (∀ j oj,ops[j]? = some oj→j≠i→seen.getD j true=false→(∀ e ∈ oj.after,Region.binds md e=true→e.on≠i)→oi.apart ops oj=true)→
   i ∈ Region.ready md ops seen→YieldsIn P ops C oi v a→
   headQ P md ops C n L f (seen.setIfInBounds i true) (a.put oi.dst v)→headQ P md ops C n L (f+1) seen a:=by
 intro f
 induction f with
 | zero=>
  intro seen a inv _ hr hy H
  refine ⟨fun h=>(by rw [h] at hr;cases hr),fun j hj=>?_⟩
  have hjn:j < n:=(Nat.lt_or_ge j n).elim id fun h=>absurd hj (tail_waits hs hc hn inv _ i rfl hin (mem_ready.1 hr).1 j h)
  refine ⟨hjn,?_⟩
  by_cases e:j=i
  ·subst e;exact hy.qOp hi H
  ·have:=hdone _ _ H j (ready_mono hj e)
   omega
 | succ f ih=>
  intro seen a inv hfree hr hy H
  have hun:=(mem_ready.1 hr).1
  refine ⟨fun h=>(by rw [h] at hr;cases hr),fun j hj=>?_⟩
  have hjn:j < n:=(Nat.lt_or_ge j n).elim id fun h=>absurd hj (tail_waits hs hc hn inv _ i rfl hin hun j h)
  refine ⟨hjn,?_⟩
  by_cases e:j=i
  ·subst e;exact hy.qOp hi H
  ·obtain ⟨hjun,oj,hoj,hall⟩:=mem_ready.1 hj
   have hnot:∀ x ∈ oj.after,Region.binds md x=true→x.on≠i:=fun x hx hb hxi=>by
    have:=hall x hx hb
    rw [hxi,getD_both hun] at this
    cases this
   have h2:=qOp_put hoj (hfree j oj hoj e hjun hnot) (fun cs b=>hsel i oi cs b hi) (fun cs b=>hsel j oj cs b hoj) hy (H.2 j (ready_mono hj e)).2
   refine qOp_mono (fun a' h3=>ih (seen.setIfInBounds j true) a' (inv.set hj hjn) (fun k ok hk hki hku hno=>hfree k ok hk hki ?_ hno) (ready_mono hr (Ne.symm e)) h3.1 ?_) h2
   ·by_cases hjk:j=k
    ·subst hjk;exact hjun
    ·rw [getD_set_ne true hjk] at hku;exact hku
   ·rw [Array.setIfInBounds_comm _ _ e]
    exact h3.2
theorem headQ_lex {n g:Nat} {Lq:Act→Prop} (hsel:Region.noSelect ops=true) (hs:Region.sinkB md ops n=true) (hc:Region.chainB md ops n=true) (hn:n < ops.size):
  ∀ (l:List Oper) (k:Nat) (seen:Array Bool) (a:Act),(∀ j,j < l.length→l[j]? = ops[k+j]?)→k+l.length=n→HeadInv md ops n seen→
  Region.lexHead md ops g l.length k seen=true→wpQuiet P ops C Lq l a→
  headQ P md ops C n (fun s a'=>Region.seqB md ops g n s=true∧Lq a') l.length seen a
 | [],k,seen,a,_,hk,_,hB,h=>by
  obtain rfl:k=n:=by simpa using hk
  exact ⟨by simpa [Region.lexHead] using hB,h⟩
 | o :: l,k,seen,a,hl,hk,inv,hB,h=>by
  have h0:ops[k]? = some o:=by simpa using (hl 0 (by simp)).symm
  simp only [List.length_cons,Region.lexHead,Bool.and_eq_true] at hB
  obtain ⟨⟨hr,hf⟩,hB'⟩:=hB
  have hkn:k < n:=by simp only [List.length_cons] at hk;omega
  have hr':k ∈ Region.ready md ops seen:=by simpa using hr
  have hst:qOp P ops C k (wpQuiet P ops C Lq l) a:=by unfold qOp;simp only [h0];exact h
  obtain ⟨v,hy,hK⟩:=yieldsIn_of_qOp h0 hst
  refine headQ_first h0 (Region.noSelect_spec hsel) hs hc hn hkn (fun s a' hL=>seqB_ready hL.1) l.length seen a inv (Region.free_spec h0 hf) hr' hy ?_
  refine headQ_lex hsel hs hc hn l (k+1) _ _ (fun j hj=>?_) (by simp only [List.length_cons] at hk;omega) (inv.set hr' hkn) hB' hK
  have:=hl (j+1) (by simp;omega)
  simpa [Nat.add_assoc,Nat.add_comm 1 j] using this
theorem wp_region_head {id:Nat} {Q:Exit→Act→World→Prop} {a:Act} {w:World} {l:List Oper} (n:Nat) (hm:P.follows .mixedOrders=true) (hB:Region.lexTailB .any l.toArray n=true)
  (hC:C { w with drawn:=w.drawn+1 }) (h:wpQuiet P l.toArray C (fun a'=>∀ w',C w'→wpList P l.toArray Q (l.drop n) a' w') (l.take n) a):(Code.region id l.toArray true).wp P Q a w:=by
 simp only [Region.lexTailB,Bool.and_eq_true,decide_eq_true_eq] at hB
 obtain ⟨⟨⟨⟨hsel,hn⟩,hs⟩,hc⟩,hlex⟩:=hB
 have hn':n < l.length:=by simpa using hn
 have htl:(l.take n).length=n:=by simp;omega
 have hdl:(l.drop n).length=l.toArray.size - n:=by simp
 have inv0:HeadInv .any l.toArray n (Array.replicate l.toArray.size false):=
  ⟨by simp,fun j oj _ hl=>(by rw [getD_replicate_false] at hl;cases hl),fun t _ ht=>getD_in (by simpa using ht) (getD_replicate_false _ _)⟩
 have H:=headQ_lex (md := .any) (g:=l.toArray.size - n) hsel hs hc hn (l.take n) 0 _ a (fun j hj=>by
  rw [htl] at hj
  simp [hj]) (by simpa using htl) inv0 (by rw [htl];exact hlex) h
 refine wp_region_any hm ?_
 have:=headQ_any (Q':=Q) (g:=l.toArray.size - n) (fun s a' w' hw' hL=>by
  have:=wpAny_of_seq (md := .any) (Q':=Q) (l.drop n) n s a' w' (fun j=>by simp [List.getElem?_drop]) (by rw [hdl];exact hL.1) (hL.2 w' hw')
  rwa [hdl] at this) _ _ _ _ hC H
 rw [htl,show n+(l.toArray.size - n)=l.toArray.size by omega] at this
 exact this
theorem wp_region_later_tail {id:Nat} {Q:Exit→Act→World→Prop} {a:Act} {w:World} {l:List Oper} (n B:Nat) (hm:P.follows .mixedOrders=true) (hB:Region.lexTailB .any l.toArray n=true) (h0:B≤w.heap.size)
  (h:wpQuiet P l.toArray (fun w'=>∃ X:Later B w,w'=X.w) (fun a'=>∀ X:Later B w,B≤X.w.heap.size→w.heap.size≤X.w.heap.size→wpList P l.toArray Q (l.drop n) a' X.w) (l.take n) a):(Code.region id l.toArray true).wp P Q a w:=by
 have hd:Below B w { w with drawn:=w.drawn+1 }:=⟨rfl,rfl,rfl,Nat.le_refl _,fun _ _=>rfl⟩
 refine wp_region_head (C:=fun w'=>∃ X:Later B w,w'=X.w) n hm hB ⟨⟨_,hd⟩,rfl⟩ ?_
 refine quiet_weak (fun a' ha w' hw'=>?_) _ _ h
 obtain ⟨X,rfl⟩:=hw'
 exact ha X (Nat.le_trans h0 X.is.size) X.is.size
end
end Go.Proofs.YthlijfligikciaaGreat
namespace Go.Proofs.YthlijfligikciaaGreat
open Go.RowKit
set_option linter.unusedSimpArgs false
set_option maxHeartbeats 1000000 in
theorem fits_any (x y:Int) (w:World):
  Calls Tryz.prog 10 #[.agg #[.int .i64 x, .int .i64 y]] w fun e w'=>e = .returned (.bool (fitsB x y))∧Below w.heap.size w w':=by
 go_enter Tryz.func10,Tryz.ntmps10
 go_wp2
 all_goals
  go_ret
  exact ⟨ret_b (iff_b (by simp [fitsB];try omega)),q9o⟩
set_option maxHeartbeats 2000000 in
theorem right_any (a b c d:Int) (w:World):
  Calls Tryz.prog 32 #[.agg #[.int .i64 a, .int .i64 b, .int .i64 c, .int .i64 d]] w fun e w'=>e = .returned (.bool (rightB a b c d))∧Below w.heap.size w w':=by
 go_enter Tryz.func32,Tryz.ntmps32
 go_wp2
 all_goals
  go_ret
  exact ⟨ret_b (iff_b (by simp [rightB];try omega)),q9o⟩
set_option maxHeartbeats 2000000 in
theorem has_any (a b c d x y:Int) (w:World):
  Calls Tryz.prog 72 #[.agg #[.int .i64 a, .int .i64 b, .int .i64 c, .int .i64 d], .agg #[.int .i64 x, .int .i64 y]] w fun e w'=>e = .returned (.bool (hasB a b c d x y))∧Below w.heap.size w w':=by
 go_enter Tryz.func72,Tryz.ntmps72
 go_wp2_with (first
  | (go_at_call 32;refine (right_any _ _ _ _ _).mono ?_;rintro e w' ⟨rfl,hb⟩;obtain ⟨X1,rfl,hl1,hm1⟩:=later (w.heap.size+2) hb (by first|exact Nat.le_refl _|go_size);clear hb;(try simp only [q9A,q9B,q9D] at hm1))
  | (go_at_call 10;refine (fits_any _ _ _).mono ?_;rintro e w' ⟨rfl,hb⟩;obtain ⟨X2,rfl,hl2,hm2⟩:=later (w.heap.size+2) hb (by first|exact Nat.le_refl _|go_size);clear hb;(try simp only [q9A,q9B,q9D] at hm2))
  | go_in)
 all_goals
  go_ret
  exact ⟨ret_b (iff_b (by simp only [has_iff,right_iff,fits_iff] at *;simp;try omega)),q9o⟩
set_option maxHeartbeats 4000000 in
theorem in_any (a b c d a' b' c' d':Int) (w:World):
  Calls Tryz.prog 9 #[.agg #[.int .i64 a, .int .i64 b, .int .i64 c, .int .i64 d], .agg #[.int .i64 a', .int .i64 b', .int .i64 c', .int .i64 d']] w fun e w'=>e = .returned (.bool (inB a b c d a' b' c' d'))∧Below w.heap.size w w':=by
 have hmf:∀ (fn:Fn) (first cap:Array Value) (w:World),(Instr.makeFunc fn first cap).run Tryz.prog w = .ok (.func fn first cap) w:=fun _ _ _ _=>rfl
 go_enter Tryz.func9,Tryz.ntmps9
 go_wp2_with (first
  | (go_at_call 32;refine (right_any _ _ _ _ _).mono ?_;rintro e w' ⟨rfl,hb⟩;obtain ⟨X1,rfl,hl1,hm1⟩:=later (w.heap.size+2) hb (by first|exact Nat.le_refl _|go_size);clear hb;(try simp only [q9A,q9B,q9D] at hm1))
  | go_in)
 all_goals
  go_ret
  exact ⟨ret_b (iff_b (by simp only [in_iff,right_iff] at *;simp;try omega)),q9o⟩
set_option maxHeartbeats 2000000 in
theorem meets_any (a b c d a' b' c' d':Int) (w:World):
  Calls Tryz.prog 95 #[.agg #[.int .i64 a, .int .i64 b, .int .i64 c, .int .i64 d], .agg #[.int .i64 a', .int .i64 b', .int .i64 c', .int .i64 d']] w fun e w'=>e = .returned (.bool (meetsB a b c d a' b' c' d'))∧Below w.heap.size w w':=by
 go_enter Tryz.func95,Tryz.ntmps95
 go_wp2_with (first
  | (go_at_call 32;refine (right_any _ _ _ _ _).mono ?_;rintro e w' ⟨rfl,hb⟩;obtain ⟨X1,rfl,hl1,hm1⟩:=later (w.heap.size+2) hb (by first|exact Nat.le_refl _|go_size);clear hb;(try simp only [q9A,q9B,q9D] at hm1)))
 all_goals
  go_ret
  exact ⟨ret_b (iff_b (by simp only [meets_iff,right_iff] at *;simp;try omega)),q9o⟩
set_option maxHeartbeats 2000000 in
theorem meet_any (a b c d a' b' c' d':Int) (w:World):
  Calls Tryz.prog 97 #[.agg #[.int .i64 a, .int .i64 b, .int .i64 c, .int .i64 d], .agg #[.int .i64 a', .int .i64 b', .int .i64 c', .int .i64 d']] w fun e w'=>
   e = .returned (.tuple #[.agg #[.int .i64 (sel (meetsB a b c d a' b' c' d') (max a a')), .int .i64 (sel (meetsB a b c d a' b' c' d') (max b b')), .int .i64 (sel (meetsB a b c d a' b' c' d') (min c c')), .int .i64 (sel (meetsB a b c d a' b' c' d') (min d d'))], .bool (meetsB a b c d a' b' c' d')])∧Below w.heap.size w w':=by
 rcases Bool.eq_false_or_eq_true (meetsB a b c d a' b' c' d') with h|h
 all_goals
  have hc:=(meets_any a b c d a' b' c' d')
  rw [h] at hc
  have H:=Lib.hid hc
  clear hc
  go_enter Tryz.func97,Tryz.ntmps97
  go_wp2_with (first
   | (go_at_call 95;refine (H.out _).mono ?_;rintro e w' ⟨rfl,hb⟩;obtain ⟨X1,rfl,hl1,hm1⟩:=later (w.heap.size+3) hb (by first|exact Nat.le_refl _|go_size);clear hb;(try simp only [q9A,q9B,q9D] at hm1)))
  rw [h]
  refine bodyPost_ret (by simp only [results,Tryz.results97];go_simp;all_goals simp [sel]) rfl ⟨rfl,?_⟩
  exact q9o
set_option maxHeartbeats 2000000 in
theorem area_any (a b c d:Int) (w:World):
  Calls Tryz.prog 96 #[.agg #[.int .i64 a, .int .i64 b, .int .i64 c, .int .i64 d]] w fun e w'=>e = .returned (.int .u64 (areaI a b c d))∧Below w.heap.size w w':=by
 rcases Bool.eq_false_or_eq_true (rightB a b c d) with h|h
 ·have g:=right_iff.1 h
  have hm:=mul_bd (u:=c - a+1) (v:=d - b+1) (by omega) (by omega) (by omega) (by omega)
  have hc:=right_any a b c d
  rw [h] at hc
  have H:=Lib.hid hc
  clear hc
  go_enter Tryz.func96,Tryz.ntmps96
  go_wp2_with (first
   | (go_at_call 32;refine (H.out _).mono ?_;rintro e w' ⟨rfl,hb⟩;obtain ⟨X1,rfl,hl1,hm1⟩:=later (w.heap.size+1) hb (by first|exact Nat.le_refl _|go_size);clear hb;(try simp only [q9A,q9B,q9D] at hm1)))
  go_ret
  exact ⟨ret_i (by rw [areaI,h];rfl),q9o⟩
 ·have hc:=right_any a b c d
  rw [h] at hc
  have H:=Lib.hid hc
  clear hc
  go_enter Tryz.func96,Tryz.ntmps96
  go_wp2_with (first
   | (go_at_call 32;refine (H.out _).mono ?_;rintro e w' ⟨rfl,hb⟩;obtain ⟨X1,rfl,hl1,hm1⟩:=later (w.heap.size+1) hb (by first|exact Nat.le_refl _|go_size);clear hb;(try simp only [q9A,q9B,q9D] at hm1)))
  go_ret
  exact ⟨ret_i (by rw [areaI,h];rfl),q9o⟩
set_option maxHeartbeats 1000000 in
theorem square_any (a b:Int) (w:World) (h0 : -65535≤a - b) (h1:a - b≤65535):
  Calls Tryz.prog 124 #[.int .i64 a, .int .i64 b] w fun e w'=>e = .returned (.int .u64 ((a - b)*(a - b)))∧Below w.heap.size w w':=by
 have hs:=sq_bd h0 h1
 go_enter Tryz.func124,Tryz.ntmps124
 go_wp2
 go_ret
 exact ⟨rfl,Below.refl _ _⟩
set_option maxHeartbeats 1000000 in
theorem apart_any (x y x' y':Int) (w:World):
  Calls Tryz.prog 91 #[.agg #[.int .i64 x, .int .i64 y], .agg #[.int .i64 x', .int .i64 y']] w fun e w'=>e = .returned (.int .u64 (apartI x y x' y'))∧Below w.heap.size w w':=by
 by_cases h:fitsB x y=true∧fitsB x' y'=true
 ·obtain ⟨h1,h2⟩:=h
  have g1:=fits_iff.1 h1
  have g2:=fits_iff.1 h2
  have s1:=sq_bd (u:=x - x') (by omega) (by omega)
  have s2:=sq_bd (u:=y - y') (by omega) (by omega)
  go_enter Tryz.func91,Tryz.ntmps91
  go_wp2_with (go_at_call 10;refine (fits_any _ _ _).mono ?_;rintro e w' ⟨rfl,hb⟩;obtain ⟨X1,rfl,hl1,hm1⟩:=later (w.heap.size+2) hb (by first|exact Nat.le_refl _|go_size);clear hb;(try simp only [q9A,q9B,q9D] at hm1))
  (refine wp_region_later (w.heap.size+2) (by kernel_rfl) (by kernel_rfl) (by go_size) ?_;(repeat (go_big_quiet_step ((first|(go_at_call 124;exact Later.call _ (Nat.le_trans (by go_size) (Later.is _).size) (square_any _ _ _ (by omega) (by omega)))))));refine wpQuiet_nil ?_;intro Xq hlq hmq)
  go_wp2
  go_ret
  exact ⟨ret_i (by simp [apartI,h1,h2]),q9o⟩
 ·have hv:apartI x y x' y'=0:=by unfold apartI;rw [if_neg (by simpa using h)]
  have hd:(!fitsB x y || !fitsB x' y')=true:=by revert h;cases fitsB x y <;> cases fitsB x' y' <;> simp
  clear h
  go_enter Tryz.func91,Tryz.ntmps91
  go_wp2_with (go_at_call 10;refine (fits_any _ _ _).mono ?_;rintro e w' ⟨rfl,hb⟩;obtain ⟨X1,rfl,hl1,hm1⟩:=later (w.heap.size+2) hb (by first|exact Nat.le_refl _|go_size);clear hb;(try simp only [q9A,q9B,q9D] at hm1))
  all_goals first
   | (exfalso;simp_all;done)
   | (go_ret;exact ⟨ret_i hv.symm,q9o⟩)
set_option maxHeartbeats 1000000 in
theorem clamp_any (n lo hi:Int) (w:World):
  Calls Tryz.prog 125 #[.int .i64 n, .int .i64 lo, .int .i64 hi] w fun e w'=>e = .returned (.int .i64 (clampI n lo hi))∧Below w.heap.size w w':=by
 go_enter Tryz.func125,Tryz.ntmps125
 go_wp2
 go_ret
 exact ⟨rfl,Below.refl _ _⟩
end Go.Proofs.YthlijfligikciaaGreat
namespace Go.Proofs.YthlijfligikciaaGreat
set_option linter.unusedSimpArgs false
set_option linter.unusedVariables false
theorem ofInt_64 (x:Nat) (h:x < 9223372036854775808):(BitVec.ofInt 64 (x:Int)).toNat=x:=by
 rw [BitVec.toNat_ofInt];omega
theorem wrap_i64_nat (n:Nat) (h:n < 9223372036854775808):IntKind.i64.wrap (n:Int)=(n:Int):=by
 have e:(n:Int) % 2 ^ 64=n:=Int.emod_eq_of_lt (by omega) (by omega)
 simp only [IntKind.wrap,IntKind.bits,IntKind.signed,e]
 rw [if_neg]
 simp
 omega
theorem i64_and_nat (a b:Nat) (ha:a < 9223372036854775808) (hb:b < 9223372036854775808):bits .and .i64 (a:Int) (b:Int)=((a &&& b:Nat):Int):=by
 show IntKind.i64.wrap ((BitVec.ofInt 64 (a:Int) &&& BitVec.ofInt 64 (b:Int)).toNat:Int)=_
 rw [BitVec.toNat_and,ofInt_64 a ha,ofInt_64 b hb]
 exact wrap_i64_nat _ (Nat.lt_of_le_of_lt Nat.and_le_left ha)
theorem i64_and_one (n:Nat) (h:n < 9223372036854775808):bits .and .i64 (n:Int) 1=((n % 2:Nat):Int):=by
 have:=i64_and_nat n 1 h (by omega)
 rwa [Nat.and_one_is_mod] at this
end Go.Proofs.YthlijfligikciaaGreat
namespace Go.Proofs.YthlijfligikciaaGreat
open Go.RowKit
set_option linter.unusedSimpArgs false
set_option linter.unusedVariables false
def CellsAt (w:World) (b n:Nat) (F:Nat→Value):Prop:=b < w.heap.size∧∀ j,j < n→w.cell? ⟨b,j,none⟩=some (F j)∧w.frozen? ⟨b,j,none⟩=false
theorem CellsAt.grown {w w':World} {b n q:Nat} {F:Nat→Value} (h:CellsAt w b n F) (hg:w.grownBy w' (some q)) (hq:b≠q):CellsAt w' b n F:=
 ⟨Nat.lt_of_lt_of_le h.1 hg.size,fun j hj=>by
  have e:=hg.block b h.1 (fun e=>by injection e with e;exact hq e)
  exact ⟨(World.cell?_of_block (a:=⟨b,j,none⟩) e).trans (h.2 j hj).1,(World.frozen?_of_block (a:=⟨b,j,none⟩) e).trans (h.2 j hj).2⟩⟩
theorem CellsAt.keep {w w':World} {b n:Nat} {F:Nat→Value} (h:CellsAt w b n F) (hb:Below w.heap.size w w'):CellsAt w' b n F:=
 ⟨Nat.lt_of_lt_of_le h.1 hb.size,fun j hj=>⟨(hb.cell (p:=⟨b,j,none⟩) h.1).trans (h.2 j hj).1,(hb.frozen (p:=⟨b,j,none⟩) h.1).trans (h.2 j hj).2⟩⟩
theorem CellsAt.set {w:World} {b n j:Nat} {F:Nat→Value} (h:CellsAt w b n F) (hj:j < n) (v:Value):CellsAt (w.setCell ⟨b,j,none⟩ v) b n (fun i=>if i=j then v else F i):=by
 refine ⟨by rw [World.size_setCell];exact h.1,fun i hi=>?_⟩
 have h1:=h.2 i hi
 have h2:=h.2 j hj
 have hlt:=h.1
 by_cases e:i=j
 ·subst e
  exact ⟨by go_simp,by go_simp⟩
 ·exact ⟨by go_simp,by go_simp⟩
section
variable {w W:World} {g m:Nat} {F:Nat→Value}
theorem CellsAt.alloc (h:CellsAt w g m F) (o:Obj):CellsAt (w.alloc o) g m F:=h.keep ((Below.refl _ _).alloc (Nat.le_refl _) o)
theorem CellsAt.drew (h:CellsAt w g m F):CellsAt w.drew g m F:=h
def HasC (w:World) (g m:Nat):Prop:=∃ F,CellsAt w g m F
theorem HasC.of {F:Nat→Value} (h:CellsAt w g m F):HasC w g m:=⟨F,h⟩
theorem HasC.alloc (h:HasC w g m) (o:Obj):HasC (w.alloc o) g m:=by
 obtain ⟨F,h⟩:=h
 exact ⟨F,h.alloc o⟩
theorem HasC.drew (h:HasC w g m):HasC w.drew g m:=h
end
end Go.Proofs.YthlijfligikciaaGreat
