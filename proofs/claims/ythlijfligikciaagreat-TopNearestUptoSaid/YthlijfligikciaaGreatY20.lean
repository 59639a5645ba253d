/- A part of one proof: CqP CqA CellF CqB. No condition. -/
import Derived.Test.YthlijfligikciaaGreatY19
import Derived.Maps.RangeWalk
import Derived.Test.YthlijfligikciaaGreatY15
import Derived.Test.YthlijfligikciaaGreatY05
namespace Go.Proofs.YthlijfligikciaaGreat
open Go
set_option linter.unusedSimpArgs false
set_option linter.unusedVariables false
structure Sh where
 id:Int
 a:Int
 b:Int
 c:Int
 d:Int
 label:Int
def hlS (s:Sh):Int:=homeH s.a s.b s.c s.d
def okS (s:Sh):Bool:=rightB s.a s.b s.c s.d
theorem hlS_rng (s:Sh):0≤hlS s∧hlS s≤16:=by
 have:=homeLv_le s.a s.b s.c s.d 16
 unfold hlS homeH
 omega
theorem hm_all {a b c d:Int} {n:Nat} (hn:n≤16) (h:hm a b c d n=true):∀ j,j≤n→hm a b c d j=true:=by
 induction n with
 | zero=>intro j hj;obtain rfl:j=0:=(by omega);exact h
 | succ n ih=>
  intro j hj
  rcases Nat.lt_or_eq_of_le hj with h9|rfl
  ·exact ih (by omega) (hm_down (by omega) (by simpa using h)) j (by omega)
  ·exact h
theorem hm_lev {s:Sh} {l:Int} (hok:okS s=true) (h0:0≤l) (h1:l≤hlS s):s.a / sd l=s.c / sd l∧s.b / sd l=s.d / sd l:=by
 have hz:=hm_zero hok
 have h:=homeLv_hm hz 16
 have hle:=homeLv_le s.a s.b s.c s.d 16
 have h9:=hm_all hle h l.toNat (by unfold hlS homeH at h1;omega)
 rw [hm_iff,Int.toNat_of_nonneg h0] at h9
 exact h9
def unS (l x y:Int) (s:Sh):Prop:=okS s=true∧l≤hlS s∧s.a / sd l=x∧s.b / sd l=y
theorem un_kid {l X Y:Int} {s:Sh} (h0:0≤l) (h:unS l X Y s) (h1:l < hlS s):unS (l+1) (kx X (kidJ l s.a s.b)) (ky Y (kidJ l s.a s.b)) s:=by
 obtain ⟨hok,hl,hx,hy⟩:=h
 have hr:=right_iff.1 hok
 have hh:=hlS_rng s
 have h9:=kid_in (l:=l) (X:=X) (Y:=Y) (r:=⟨0,s.a,s.b,0⟩) h0 (by omega) ⟨fits_iff.2 ⟨hr.1,hr.2.1,hr.2.2.1,hr.2.2.2.1⟩,hx,hy⟩
 exact ⟨hok,by omega,h9.2.1,h9.2.2⟩
theorem un_up {l X Y:Int} {j:Fin 4} {s:Sh} (h0:0≤l) (h1:l < 16) (h:unS (l+1) (kx X j) (ky Y j) s):unS l X Y s:=by
 obtain ⟨hok,hl,hx,hy⟩:=h
 have hr:=right_iff.1 hok
 have h9:=inC_up (l:=l) (X:=X) (Y:=Y) (j:=j) (r:=⟨0,s.a,s.b,0⟩) h0 h1 ⟨fits_iff.2 ⟨hr.1,hr.2.1,hr.2.2.1,hr.2.2.2.1⟩,hx,hy⟩
 exact ⟨hok,by omega,h9.2.1,h9.2.2⟩
theorem un_kid_is {l X Y:Int} {j:Fin 4} {s:Sh} (h0:0≤l) (h1:l < 16) (h:unS (l+1) (kx X j) (ky Y j) s):j=kidJ l s.a s.b:=by
 obtain ⟨hok,hl,hx,hy⟩:=h
 have hv:=kidJ_val (l:=l) (x:=s.a) (y:=s.b)
 rw [hx,hy] at hv
 unfold kx ky at hv
 apply Fin.ext
 omega
theorem un_box {l x y:Int} {s:Sh} (h0:0≤l) (h:unS l x y s):crightB l x y=true∧(x*sd l≤s.a∧s.c≤x*sd l+sd l - 1)∧y*sd l≤s.b∧s.d≤y*sd l+sd l - 1:=by
 obtain ⟨hok,hl,rfl,rfl⟩:=h
 have hr:=right_iff.1 hok
 have hh:=hlS_rng s
 have h9:=hm_lev hok h0 hl
 have ea:=(div_iff (n:=s.a) (x:=s.a / sd l) (sd_pos l)).2 rfl
 have eb:=(div_iff (n:=s.b) (x:=s.b / sd l) (sd_pos l)).2 rfl
 have ec:=(div_iff (n:=s.c) (x:=s.a / sd l) (sd_pos l)).2 h9.1.symm
 have ed:=(div_iff (n:=s.d) (x:=s.b / sd l) (sd_pos l)).2 h9.2.symm
 exact ⟨of_right h0 (by omega) hr.1 hr.2.1 hr.2.2.1 hr.2.2.2.1,⟨ea.1,ec.2⟩,eb.1,ed.2⟩
theorem un_root {s:Sh} (h:okS s=true):unS 0 0 0 s:=by
 have hr:=right_iff.1 h
 have hh:=hlS_rng s
 have e:sd 0=65536:=by decide
 refine ⟨h,hh.1,?_,?_⟩ <;> rw [e] <;> omega
theorem sdp_mul {h l:Int} (h0:0≤l) (h1:l≤h) (h2:h≤16):sd h*pw (h - l)=sd l:=by
 unfold sd pw
 rw [← Int.pow_add]
 congr 1
 omega
theorem way_cell {s:Sh} {l:Int} (h0:0≤l) (h1:l < hlS s) (n:Int):n / sd (hlS s) / pw (hlS s - (l+1))=n / sd (l+1):=by
 have hh:=hlS_rng s
 rw [Int.ediv_ediv_of_nonneg (Int.le_of_lt (sd_pos _)),sdp_mul (by omega) (by omega) hh.2]
theorem home_right {s:Sh} (h:okS s=true):crightB (hlS s) (s.a / sd (hlS s)) (s.b / sd (hlS s))=true:=by
 have hr:=right_iff.1 h
 have hh:=hlS_rng s
 exact of_right hh.1 hh.2 hr.1 hr.2.1 hr.2.2.1 hr.2.2.2.1
inductive CT where
 | nil
 | node (b m:Nat) (L:List Sh) (k:Fin 4→CT)
def kidsS (f:Fin 4→List Sh):List Sh:=f 0 ++ (f 1 ++ (f 2 ++ f 3))
namespace CT
def sh:CT→List Sh
 | nil=>[]
 | node _ _ L k=>L ++ ((k 0).sh ++ ((k 1).sh ++ ((k 2).sh ++ (k 3).sh)))
def ptr:CT→Option Addr
 | nil=>none
 | node b _ _ _=>some ⟨b,0,none⟩
def Bl:CT→Nat→Prop
 | nil,_=>False
 | node b m _ k,z=>z=b∨z=m∨∃ j,(k j).Bl z
def Sep:CT→Prop
 | nil=>True
 | node b m _ k=>b≠m∧(∀ j z,(k j).Bl z→z≠b∧z≠m)∧(∀ i j,i≠j→∀ z,(k i).Bl z→¬ (k j).Bl z)∧∀ j,(k j).Sep
def At:CT→Int→Int→Int→Prop
 | nil,_,_,_=>True
 | node _ _ L k,l,x,y=>(0≤l∧l≤16)∧(∀ s ∈ L,unS l x y s∧hlS s=l)∧∀ j,(k j).At (l+1) (kx x j) (ky y j)
end CT
theorem sh_node (b m:Nat) (L:List Sh) (k:Fin 4→CT):(CT.node b m L k).sh=L ++ kidsS (fun j=>(k j).sh):=rfl
theorem kidsS_mem {f:Fin 4→List Sh} {s:Sh}:s ∈ kidsS f↔∃ j,s ∈ f j:=by
 simp only [kidsS,List.mem_append]
 constructor
 ·rintro (h|h|h|h)
  ·exact ⟨0,h⟩
  ·exact ⟨1,h⟩
  ·exact ⟨2,h⟩
  ·exact ⟨3,h⟩
 ·rintro ⟨j,h⟩
  match j,h with
  | 0,h=>exact .inl h
  | 1,h=>exact .inr (.inl h)
  | 2,h=>exact .inr (.inr (.inl h))
  | 3,h=>exact .inr (.inr (.inr h))
def updC (k:Fin 4→CT) (j:Fin 4) (t:CT):Fin 4→CT:=fun m=>if m=j then t else k m
theorem updC_same {k:Fin 4→CT} {j:Fin 4} {t:CT}:updC k j t j=t:=by simp [updC]
theorem updC_other {k:Fin 4→CT} {j m:Fin 4} {t:CT} (h:m≠j):updC k j t m=k m:=by simp [updC,h]
theorem updC_back {k:Fin 4→CT} {j:Fin 4} {t:CT}:updC (updC k j t) j (k j)=k:=by
 funext m
 by_cases h:m=j
 ·subst h;simp [updC]
 ·simp [updC,h]
theorem kids_upd {k:Fin 4→CT} {j:Fin 4} {t:CT} {s:Sh} (h:t.sh.Perm (s :: (k j).sh)):(kidsS fun m=>(updC k j t m).sh).Perm (s :: kidsS fun m=>(k m).sh):=by
 have mid:∀ A B:List Sh,(A ++ s :: B).Perm (s :: (A ++ B)):=fun A B=>List.perm_middle
 unfold kidsS
 match j,h with
 | 0,h=>
  simp only [updC,if_true,if_neg (show ¬ (1:Fin 4)=0 by decide),if_neg (show ¬ (2:Fin 4)=0 by decide),if_neg (show ¬ (3:Fin 4)=0 by decide)]
  exact (h.append_right _)
 | 1,h=>
  simp only [updC,if_true,if_neg (show ¬ (0:Fin 4)=1 by decide),if_neg (show ¬ (2:Fin 4)=1 by decide),if_neg (show ¬ (3:Fin 4)=1 by decide)]
  exact ((h.append_right _).append_left _).trans (mid _ _)
 | 2,h=>
  simp only [updC,if_true,if_neg (show ¬ (0:Fin 4)=2 by decide),if_neg (show ¬ (1:Fin 4)=2 by decide),if_neg (show ¬ (3:Fin 4)=2 by decide)]
  exact ((((h.append_right _).append_left _).trans (mid _ _)).append_left _).trans (mid _ _)
 | 3,h=>
  simp only [updC,if_true,if_neg (show ¬ (0:Fin 4)=3 by decide),if_neg (show ¬ (1:Fin 4)=3 by decide),if_neg (show ¬ (2:Fin 4)=3 by decide)]
  exact ((((((h).append_left _).trans (mid _ _)).append_left _).trans (mid _ _)).append_left _).trans (mid _ _)
theorem kids_del {k:Fin 4→CT} {j:Fin 4} {t:CT} {s:Sh} (h:(k j).sh.Perm (s :: t.sh)):(kidsS fun m=>(k m).sh).Perm (s :: kidsS fun m=>(updC k j t m).sh):=by
 have h9:=kids_upd (k:=updC k j t) (j:=j) (t:=k j) (s:=s) (by rw [updC_same];exact h)
 rw [updC_back] at h9
 exact h9
theorem at_un:∀ (t:CT) (l x y:Int),t.At l x y→∀ s ∈ t.sh,unS l x y s
 | .nil,l,x,y,h,s,hs=>by cases hs
 | .node b m L k,l,x,y,h,s,hs=>by
  rw [sh_node,List.mem_append,kidsS_mem] at hs
  rcases hs with hs|⟨j,hj⟩
  ·exact (h.2.1 s hs).1
  ·have h9:=at_un (k j) _ _ _ (h.2.2 j) s hj
   have hl:l < 16:=by
    have hk:=h.2.2 j
    revert hk hj
    cases hkj:k j with
    | nil=>intro hj _;cases hj
    | node b' m' L' k'=>intro _ hk;have:=hk.1;omega
   exact un_up h.1.1 hl h9
theorem at_own {b m:Nat} {L:List Sh} {k:Fin 4→CT} {l x y:Int} {s:Sh} (h:(CT.node b m L k).At l x y) (hs:s ∈ (CT.node b m L k).sh) (hl:hlS s=l):s ∈ L:=by
 rw [sh_node,List.mem_append,kidsS_mem] at hs
 rcases hs with hs|⟨j,hj⟩
 ·exact hs
 ·have h9:=at_un (k j) _ _ _ (h.2.2 j) s hj
  have:=h9.2.1
  omega
theorem at_kid {b m:Nat} {L:List Sh} {k:Fin 4→CT} {l x y:Int} {s:Sh} (h:(CT.node b m L k).At l x y) (hs:s ∈ (CT.node b m L k).sh) (hl:hlS s≠l):s ∈ (k (kidJ l s.a s.b)).sh:=by
 rw [sh_node,List.mem_append,kidsS_mem] at hs
 rcases hs with hs|⟨j,hj⟩
 ·exact absurd (h.2.1 s hs).2 hl
 ·have h9:=at_un (k j) _ _ _ (h.2.2 j) s hj
  have hl16:l < 16:=by have:=h9.2.1;have:=hlS_rng s;omega
  rw [← un_kid_is h.1.1 hl16 h9]
  exact hj
end Go.Proofs.YthlijfligikciaaGreat
namespace Go.Proofs.YthlijfligikciaaGreat
open Go.RowKit Go.Maps
set_option linter.unusedSimpArgs false
set_option linter.unusedVariables false
set_option maxRecDepth 2000
def shC (s:Sh):List Value:=[.int .i64 s.id, .int .i64 s.a, .int .i64 s.b, .int .i64 s.c, .int .i64 s.d, .int .i64 s.label]
def shV (s:Sh):Value := .agg #[.int .i64 s.id, .int .i64 s.a, .int .i64 s.b, .int .i64 s.c, .int .i64 s.d, .int .i64 s.label]
def shF (L:List Sh):List Value:=L.flatMap shC
theorem shC_len (s:Sh):(shC s).length=6:=rfl
def shS (L:List Sh) (k:Int):Option Value:=(L.find? (fun s=>s.id == k)).map shV
theorem shS_cons (s:Sh) (L:List Sh):shS (s :: L)=fun x=>if x=s.id then some (shV s) else shS L x:=by
 funext x
 unfold shS
 rw [List.find?_cons]
 by_cases e:x=s.id
 ·subst e;simp
 ·have hb:(s.id == x)=false:=by simp;exact fun e'=>e e'.symm
  simp [e,hb]
def delS (L:List Sh) (k:Int):List Sh:=L.filter (fun s=>!(s.id == k))
theorem delS_mem {L:List Sh} {k:Int} {s:Sh}:s ∈ delS L k↔s ∈ L∧s.id≠k:=by simp [delS]
theorem shS_del (k:Int):∀ L:List Sh,shS (delS L k)=fun x=>if x=k then none else shS L x
 | []=>by funext x;simp [delS,shS]
 | s :: L=>by
  have ih:=shS_del k L
  unfold delS at ih ⊢
  rw [List.filter_cons]
  by_cases e:s.id=k
  ·subst e
   have hb:(!(s.id == s.id))=false:=by simp
   rw [if_neg (by rw [hb];simp),ih,shS_cons]
   funext x
   by_cases e':x=s.id <;> simp [e']
  ·have hb:(!(s.id == k))=true:=by simp [e]
   rw [if_pos hb,shS_cons,ih,shS_cons]
   funext x
   by_cases e':x=s.id
   ·subst e';simp [e]
   ·simp [e']
theorem shS_none {L:List Sh} {k:Int} (h:shS L k=none):∀ s ∈ L,s.id≠k:=fun r hr e=>by
 unfold shS at h
 cases h9:L.find? (fun z=>z.id == k) with
 | none=>have:=List.find?_eq_none.1 h9 r hr;simp [e] at this
 | some z=>rw [h9] at h;cases h
theorem shS_some {L:List Sh} {k:Int} {v:Value} (h:shS L k=some v):∃ s ∈ L,s.id=k∧v=shV s:=by
 unfold shS at h
 cases h9:L.find? (fun z=>z.id == k) with
 | none=>rw [h9] at h;cases h
 | some z=>
  rw [h9] at h
  injection h with h
  exact ⟨z,List.mem_of_find?_eq_some h9,by simpa using List.find?_some h9,h.symm⟩
theorem shS_at {s:Sh}:∀ {L:List Sh},(L.map (·.id)).Nodup→s ∈ L→shS L s.id=some (shV s)
 | u :: L,hn,hs=>by
  rw [shS_cons]
  rw [List.map_cons,List.nodup_cons] at hn
  rcases List.mem_cons.1 hs with rfl|hs
  ·simp
  ·have hne:s.id≠u.id:=fun e=>hn.1 (List.mem_map.2 ⟨s,hs,e⟩)
   simp only [hne,if_false]
   exact shS_at hn.2 hs
theorem shS_has {L:List Sh} {k:Int}:(shS L k).isSome=true↔∃ s ∈ L,s.id=k:=by
 constructor
 ·intro h
  cases h9:shS L k with
  | none=>rw [h9] at h;cases h
  | some v=>obtain ⟨s,hs,e,_⟩:=shS_some h9;exact ⟨s,hs,e⟩
 ·rintro ⟨s,hs,rfl⟩
  cases h9:shS L s.id with
  | none=>exact absurd rfl (shS_none h9 s hs)
  | some v=>rfl
section
variable {w w':World} {b n n':Nat} {S:Int→Option Value}
theorem M1.more (h:M1 w b n S) (hn:n≤n'):M1 w b n' S:=by
 obtain ⟨D,h,r⟩:=h
 exact ⟨D,h.mono hn,r⟩
theorem M1.del (h:M1 w b n S) {mt et:TypeId} (hU:Tryz.prog.underlying mt=some (.map 3 et)) {k:Int} (hk:wf64 k) (ty:TypeId):
  ∃ w',(Builtin.delete_ #[mt,3] ty #[.map (some b), .int .i64 k]).run Tryz.prog w = .ok (.tuple #[]) w'∧M1 w' b n (fun x=>if x=k then none else S x)∧w.grownBy w' (some b):=by
 obtain ⟨D,h,hm,hat⟩:=h
 obtain ⟨w',hrun,h1,h2⟩:=h.drop i_keyed hU (ikey_mk hk) ty
 refine ⟨w',hrun,⟨_,h1,hm.del _,fun x hx=>?_⟩,h2.grown⟩
 by_cases e:x=k
 ·subst e
  simp only [if_true]
  exact ⟨has_del_same,fun u hu=>by cases hu⟩
 ·have hne:(.int .i64 x:Lit) ≠ .int .i64 k:=fun he=>e (by injection he)
  simp only [e,if_false]
  obtain ⟨h3,h4⟩:=hat x hx
  exact ⟨(has_del_other hne).trans h3,fun u hu zd=>by rw [atKey_del_other hne];exact h4 u hu zd⟩
end
structure ML (w:World) (z m:Nat) (L:List Sh):Prop where
 ids:(L.map (·.id)).Nodup
 wf:∀ s ∈ L,wf64 s.id
 m1:M1 w m z (shS L)
section
variable {w w':World} {z z' m:Nat} {L:List Sh}
theorem ML.same (h:ML w z m L) (e:w'.heap[m]? = w.heap[m]?):ML w' z m L:=⟨h.ids,h.wf,h.m1.same e⟩
theorem ML.more (h:ML w z m L) (hz:z≤z'):ML w z' m L:=⟨h.ids,h.wf,h.m1.more hz⟩
theorem ML.lt (h:ML w z m L):m < w.heap.size:=h.m1.lt
end
structure RgL (w:World) (z b r:Nat) (U:List Sh) (D:DataW Value) (left:Lit→Bool) (cnt:Nat):Prop where
 rg:w.ranges Tryz.prog 3 heldV b r z D left cnt
 ids:(U.map (·.id)).Nodup
 wf:∀ s ∈ U,wf64 s.id
 lf:∀ s ∈ U,left (.int .i64 s.id)=true∧∀ zd,D.atKey (.int .i64 s.id) zd = .held (shV s)
 of:∀ kl,left kl=true→∃ s ∈ U,kl = .int .i64 s.id
section
variable {w w':World} {z b r cnt:Nat} {L U:List Sh} {D:DataW Value} {left:Lit→Bool}
theorem RgL.same (h:RgL w z b r U D left cnt) (e1:w'.heap[b]? = w.heap[b]?) (e2:w'.heap[r]? = w.heap[r]?):RgL w' z b r U D left cnt:=by
 obtain ⟨⟨es,clock,since,seen,c0,hb,F,hs,hD,hr,rest⟩,h2,h3,h4,h5⟩:=h
 exact ⟨⟨es,clock,since,seen,c0,e1.trans hb,F,hs,hD,e2.trans hr,rest⟩,h2,h3,h4,h5⟩
theorem int_key {kl:Lit} {key:Value} (h:keyOf Tryz.prog 3 key=some kl):∃ x,key = .int .i64 x∧kl = .int .i64 x∧wf64 x:=by
 obtain ⟨x,h1,h2,h3⟩:=keyOf_int_inv Tryz.underlying3 h
 exact ⟨x,h1,h2,by have h9:=h3;simp only [Lit.wf,Bool.and_eq_true,decide_eq_true_eq] at h9;exact h9⟩
theorem wpList_range_sh {ops:Array Oper} {rest:List Oper} {o:Oper} {a:Act} {Q:Exit→Act→World→Prop} (hg:o.guard=none) (m:Operand) (t:TypeId) (hop:o.op=Op.range t m) (et:TypeId) (ht:Tryz.prog.underlying t=some (.map 3 et)) (hm:a.eval m = .map (some b)) (h:ML w z b L)
  (hK:∀ w' D left cnt,RgL w' z b w.heap.size L D left cnt→w.grownBy w' none→w'.heap.size=w.heap.size+1→wpList Tryz.prog ops Q rest (a.put o.dst (.pointer (some ⟨w.heap.size,0,none⟩))) w'):
  wpList Tryz.prog ops Q (o :: rest) a w:=by
 obtain ⟨D,hD,hmD,hat⟩:=h.m1
 refine wpList_range_own w hg m t hop 3 et i_keyed ht heldV b z D hm hD (fun w' hrg hgr hsz=>hK w' D (has D) (size D) ⟨hrg,h.ids,h.wf,fun s hs=>?_,fun kl hkl=>?_⟩ hgr hsz)
 ·obtain ⟨h1,h2⟩:=hat s.id (h.wf s hs)
  rw [shS_at h.ids hs] at h1 h2
  exact ⟨h1,h2 _ rfl⟩
 ·obtain ⟨es,rfl,_,hkeys⟩:=hD.entries i_keyed
  obtain ⟨p,hp,hpk⟩:=List.any_eq_true.1 hkl
  obtain rfl:=WideAt.sameKey_eq hpk
  obtain ⟨es',clock,hb,F,hs,hE⟩:=hD
  injection hE with hE
  rw [hE] at hp
  obtain ⟨x,hx,hxp⟩:=List.mem_map.1 (mem_sorted.1 hp)
  obtain ⟨y,hy⟩:=F.reads x hx
  rw [Go.WideElems.rg_of hy] at hxp
  obtain ⟨k,_,hkl2,hwf⟩:=int_key (Go.WideElems.rd_key hy)
  rw [hxp] at hkl2
  rw [hkl2] at hkl ⊢
  obtain ⟨h1,_⟩:=hat k hwf
  rw [hkl] at h1
  obtain ⟨s,hs,e⟩:=shS_has.1 h1.symm
  exact ⟨s,hs,by rw [e]⟩
theorem wpList_next_sh {ops:Array Oper} {rest:List Oper} {o:Oper} {a:Act} {Q:Exit→Act→World→Prop} (hg:o.guard=none) (it:Operand) (hop:o.op=Op.next it false) (hit:a.eval it = .pointer (some ⟨r,0,none⟩)) (h:RgL w z b r U D left cnt)
  (hDone:U=[]→wpList Tryz.prog ops Q rest (a.put o.dst (.tuple #[.bool false])) w)
  (hMore:∀ s U' w' left' cnt',U.Perm (s :: U')→RgL w' z b r U' D left' cnt'→cnt' < cnt→w.grownBy w' (some r)→w'.heap.size=w.heap.size→(Instr.entry (.pointer (some ⟨r,0,none⟩))).run Tryz.prog w' = .ok (.tuple #[.int .i64 s.id, .agg #[.int .i64 s.id, .int .i64 s.a, .int .i64 s.b, .int .i64 s.c, .int .i64 s.d, .int .i64 s.label]]) w'→
   wpList Tryz.prog ops Q rest (a.put o.dst (.tuple #[.bool true, .int .i64 s.id, .agg #[.int .i64 s.id, .int .i64 s.a, .int .i64 s.b, .int .i64 s.c, .int .i64 s.d, .int .i64 s.label]])) w'):
  wpList Tryz.prog ops Q (o :: rest) a w:=by
 refine wpList_next_ranges w hg it hop 3 i_keyed heldV (fun x:Int=>Value.int .i64 x) (fun c:Value=>c) (fun key kl hk=>?_) (fun v y _=>⟨v,rfl⟩) b r z D left cnt hit h.rg (fun _ hl=>hDone ?_) (fun x c kl y w' cnt' hkey hlk hv hat hrg hlt hgr hsz hen=>?_)
 ·obtain ⟨x,e,_⟩:=int_key hk
  exact ⟨x,e⟩
 ·cases U with
  | nil=>rfl
  | cons s U=>have:=(h.lf s (List.mem_cons_self ..)).1;rw [hl] at this;cases this
 ·obtain ⟨s,hs,hks⟩:=h.of kl hlk
  obtain ⟨x',ex,hkx,_⟩:=int_key hkey
  cases ex
  rw [hkx] at hks
  injection hks with _ hxs
  subst hkx hxs
  have hc:c=shV s:=by
   have h1:=hat (.map [])
   rw [(h.lf s hs).2] at h1
   unfold heldV at hv
   injection hv with hv
   rw [← hv] at h1
   injection h1 with h1
   exact h1.symm
  subst hc
  obtain ⟨A,B,rfl⟩:=List.append_of_mem hs
  have hp:(A ++ s :: B).Perm (s :: (A ++ B)):=List.perm_middle
  have hids:=(hp.map (·.id)).nodup_iff.1 h.ids
  rw [List.map_cons,List.nodup_cons] at hids
  have hne:∀ u ∈ A ++ B,u.id≠s.id:=fun u hu e=>hids.1 (List.mem_map.2 ⟨u,hu,e⟩)
  refine hMore s (A ++ B) w' _ cnt' hp ⟨hrg,hids.2,fun u hu=>h.wf u (hp.mem_iff.2 (List.mem_cons_of_mem _ hu)),fun u hu=>?_,fun kl hkl=>?_⟩ hlt hgr hsz hen
  ·have h9:=h.lf u (hp.mem_iff.2 (List.mem_cons_of_mem _ hu))
   refine ⟨?_,h9.2⟩
   simp only [h9.1,Bool.true_and]
   rw [sameKey_ne (fun e=>hne u hu (by injection e))]
   rfl
  ·simp only [Bool.and_eq_true,Bool.not_eq_true'] at hkl
   obtain ⟨u,hu,hk2⟩:=h.of kl hkl.1
   rcases List.mem_cons.1 (hp.mem_iff.1 hu) with rfl|hu
   ·rw [hk2] at hkl
    rw [WideAt.sameKey_self (i_keyed.key (ikey_mk (h.wf u hs)))] at hkl
    cases hkl.2
   ·exact ⟨u,hu,hk2⟩
theorem wpList_del_sh {ops:Array Oper} {rest:List Oper} {o:Oper} {a:Act} {Q:Exit→Act→World→Prop} {S:Int→Option Value} (hg:o.guard=none) (m x:Operand) (t et:TypeId) (hop:o.op=Op.call { callee:=Callee.builtin Builtin.delete,args:=#[m,x],argTypes:=#[t,3] })
  (ht:Tryz.prog.underlying t=some (.map 3 et)) (hm:a.eval m = .map (some b)) {k:Int} (hx:a.eval x = .int .i64 k) (hk:wf64 k) (h:M1 w b z S)
  (hK:∀ w',M1 w' b z (fun x=>if x=k then none else S x)→w.grownBy w' (some b)→wpList Tryz.prog ops Q rest (a.put o.dst (.tuple #[])) w'):wpList Tryz.prog ops Q (o :: rest) a w:=by
 refine wpList_plain hg fun K' hK'=>?_
 obtain ⟨w',hrun,r1,r2⟩:=h.del ht hk o.type
 unfold Oper.wp
 simp [execOp,hop,resolve,invoke,builtin,hm,hx,hrun]
 exact hK' _ _ (hK w' r1 r2)
end
def ctF (l x y:Int) (k:Fin 4→CT) (n m:Nat):Nat→Value:=fun j=>([.int .i64 l, .int .i64 x, .int .i64 y, .pointer (k 0).ptr, .pointer (k 1).ptr, .pointer (k 2).ptr, .pointer (k 3).ptr, .int .i64 (n:Nat), .map (some m)]:List Value).getD j undef
def CT.In (w:World) (z:Nat):CT→Int→Int→Int→Prop
 | .nil,_,_,_=>True
 | .node b m L k,l,x,y=>CellsAt w b 9 (ctF l x y k (CT.node b m L k).sh.length m)∧ML w z m L∧∀ j,(k j).In w z (l+1) (kx x j) (ky y j)
theorem CellsAt.chg {X:Nat→Prop} {w w':World} {b n:Nat} {F:Nat→Value} (h:CellsAt w b n F) (hc:Chg X w w') (hb:¬ X b):CellsAt w' b n F:=
 ⟨Nat.lt_of_lt_of_le h.1 hc.size,fun j hj=>⟨(hc.cell (p:=⟨b,j,none⟩) h.1 hb).trans (h.2 j hj).1,(hc.frozen (p:=⟨b,j,none⟩) h.1 hb).trans (h.2 j hj).2⟩⟩
theorem in_lt {w:World} {z:Nat}:∀ (t:CT) (l x y:Int),t.In w z l x y→∀ b,t.Bl b→b < w.heap.size
 | .nil,l,x,y,h,b,hb=>hb.elim
 | .node b m L k,l,x,y,h,c,hc=>by
  rcases hc with rfl|rfl|⟨j,hj⟩
  ·exact h.1.1
  ·exact h.2.1.lt
  ·exact in_lt (k j) _ _ _ (h.2.2 j) c hj
theorem in_chg {X:Nat→Prop} {w w':World} {z:Nat} (hc:Chg X w w'):∀ (t:CT) (l x y:Int),t.In w z l x y→(∀ b,t.Bl b→¬ X b)→t.In w' z l x y
 | .nil,l,x,y,h,hX=>trivial
 | .node b m L k,l,x,y,h,hX=>⟨h.1.chg hc (hX b (.inl rfl)),h.2.1.same (hc.block m h.2.1.lt (hX m (.inr (.inl rfl)))),fun j=>in_chg hc (k j) _ _ _ (h.2.2 j) (fun b hb=>hX b (.inr (.inr ⟨j,hb⟩)))⟩
theorem in_more {w:World} {z z':Nat} (hz:z≤z'):∀ (t:CT) (l x y:Int),t.In w z l x y→t.In w z' l x y
 | .nil,l,x,y,h=>trivial
 | .node b m L k,l,x,y,h=>⟨h.1,h.2.1.more hz,fun j=>in_more hz (k j) _ _ _ (h.2.2 j)⟩
theorem in_wf {w:World} {z:Nat}:∀ (t:CT) (l x y:Int),t.In w z l x y→∀ s ∈ t.sh,wf64 s.id
 | .nil,l,x,y,h,s,hs=>by cases hs
 | .node b m L k,l,x,y,h,s,hs=>by
  rw [sh_node,List.mem_append,kidsS_mem] at hs
  rcases hs with hs|⟨j,hj⟩
  ·exact h.2.1.wf s hs
  ·exact in_wf (k j) _ _ _ (h.2.2 j) s hj
end Go.Proofs.YthlijfligikciaaGreat
namespace Go.Proofs.YthlijfligikciaaGreat
open Go.RowKit
set_option linter.unusedSimpArgs false
set_option linter.unusedVariables false
def lastI (v:Nat→Int):Nat→Int
 | 0=>0
 | k+1=>v k
set_option maxHeartbeats 8000000 in
theorem home_any (a b c d:Int) (w:World):
  Calls Tryz.prog 61 #[.agg #[.int .i64 a, .int .i64 b, .int .i64 c, .int .i64 d]] w fun e w'=>e = .returned (.tuple #[.agg #[.int .i64 (sel (rightB a b c d) (homeH a b c d)), .int .i64 (sel (rightB a b c d) (a / sd (homeH a b c d))), .int .i64 (sel (rightB a b c d) (b / sd (homeH a b c d)))], .bool (rightB a b c d)])∧Below w.heap.size w w':=by
 have p2:=fun X:World=>right_any a b c d X
 rcases Bool.eq_false_or_eq_true (rightB a b c d) with hr|hr
 ·have g:=right_iff.1 hr
  have hz:=hm_zero hr
  rw [hr] at p2 ⊢
  have P2:=Lib.hid p2
  have HG:=Lib.hid g
  have HZ:=Lib.hid hz
  clear p2 hr g hz
  go_enter Tryz.func61,Tryz.ntmps61
  go_wp2
  go_step3
  go_wp2_with (first
   | (go_at_call 32;refine (P2.out _).mono ?_;rintro e w' ⟨rfl,hb⟩;obtain ⟨X2,rfl,hl2,hm2⟩:=later (w.heap.size+2) hb (by first|exact Nat.le_refl _|go_size);clear hb;(try simp only [q9A,q9B,q9D] at hm2)))
  go_step3
  go_wp2
  go_loopw [11] (fun i wr=>∃ k:Nat,k≤17∧i = .int .i64 k∧Below (w.heap.size+2) X2.w wr∧X2.w.heap.size+1≤wr.heap.size∧Hid (∀ j,j < k→hm a b c d j=true)
    ∧ wr.cell? ⟨X2.w.heap.size,0,none⟩=some (.int .i64 (lastI (fun j=>(j:Int)) k))∧wr.frozen? ⟨X2.w.heap.size,0,none⟩=false
    ∧ wr.cell? ⟨X2.w.heap.size,1,none⟩=some (.int .i64 (lastI (fun j=>a / sd j) k))∧wr.frozen? ⟨X2.w.heap.size,1,none⟩=false
    ∧ wr.cell? ⟨X2.w.heap.size,2,none⟩=some (.int .i64 (lastI (fun j=>b / sd j) k))∧wr.frozen? ⟨X2.w.heap.size,2,none⟩=false) (fun i _=>17 - (intOf i).toNat)
  case atStart=>exact ⟨0,Nat.zero_le _,rfl,q9l,by go_size,fun j hj=>absurd hj (by omega),by go_simp;rfl,by go_simp,by go_simp;rfl,by go_simp,by go_simp;rfl,by go_simp⟩
  case round=>
   obtain ⟨k,hk,rfl,hbel,hsz,hd,c0,f0,c1,f1,c2,f2⟩:=hrel
   obtain ⟨X,rfl⟩:∃ X:Later (w.heap.size+2) X2.w,wr=X.w:=⟨⟨wr,hbel⟩,rfl⟩
   clear hbel
   by_cases hlt:k < 17
   ·have Q3:=Lib.hid (fun X:World=>of_any a b k X (by omega) (by omega))
    have Q4:=Lib.hid (fun X:World=>of_any c d k X (by omega) (by omega))
    rcases Bool.eq_false_or_eq_true (hm a b c d k) with hh|hh
    ·have e:=hm_iff.1 hh
     have HH:=Lib.hid hh
     rw [← e.1,← e.2] at Q4
     obtain ⟨u,hu⟩:∃ u,a / sd k=u:=⟨_,rfl⟩
     obtain ⟨v,hv⟩:∃ v,b / sd k=v:=⟨_,rfl⟩
     rw [hu,hv] at Q3 Q4
     have HU:=Lib.hid hu
     have HV:=Lib.hid hv
     clear e hh hu hv
     go_wp2_with (first
      | (go_at_call 74;with_reducible refine (Q3.out _).mono ?_;rintro e w' ⟨rfl,hb⟩;obtain ⟨X3,rfl,hl3,hm3⟩:=later (X.w.heap.size) hb (by first|exact Nat.le_refl _|go_size);clear hb;(try simp only [q9A,q9B,q9D] at hm3)))
     (refine wp_region_later (X3.w.heap.size+1) (by kernel_rfl) (by kernel_rfl) (by go_size) ?_;(repeat (go_big_quiet_step ((first|(go_at_call 74;exact Later.call _ (Nat.le_trans (by go_size) (Later.is _).size) (Q4.out _))))));refine wpQuiet_nil ?_;intro Xq hlq hmq)
     go_wp2
     go_roundw
     case rel=>
      refine ⟨k+1,by omega,by go_num,q9l,by go_size,fun j hj=>?_,?_,?_,?_,?_,?_,?_⟩
      ·by_cases e:j=k
       ·subst e;exact HH.out
       ·exact hd.out j (by omega)
      ·go_simp;try rfl
      ·go_simp
      ·go_simp;show _=a / sd k;exact HU.out.symm
      ·go_simp
      ·go_simp;show _=b / sd k;exact HV.out.symm
      ·go_simp
     case measure=>simp [intOf];omega
    ·have h0:k≠0:=by rintro rfl;rw [HZ.out] at hh;cases hh
     obtain ⟨q,rfl⟩:∃ q,k=q+1:=⟨k - 1,by omega⟩
     have eH:homeH a b c d=q:=by
      unfold homeH
      have:=homeLv_stop hh (16 - q) (by omega)
      rw [show q+(16 - q)=16 by omega] at this
      rw [this,homeLv_top (.inl (hd.out q (by omega)))]
     have hne:¬ (a / sd ((q+1:Nat):Int)=c / sd ((q+1:Nat):Int)∧b / sd ((q+1:Nat):Int)=d / sd ((q+1:Nat):Int)):=fun e=>by
      rw [hm_iff.2 e] at hh;cases hh
     push_cast at hne Q3 Q4
     obtain ⟨u,hu⟩:∃ u,a / sd ((q:Int)+1)=u:=⟨_,rfl⟩
     obtain ⟨v,hv⟩:∃ v,b / sd ((q:Int)+1)=v:=⟨_,rfl⟩
     obtain ⟨u',hu'⟩:∃ u,c / sd ((q:Int)+1)=u:=⟨_,rfl⟩
     obtain ⟨v',hv'⟩:∃ v,d / sd ((q:Int)+1)=v:=⟨_,rfl⟩
     rw [hu,hv] at Q3
     rw [hu',hv'] at Q4
     rw [hu,hv,hu',hv'] at hne
     have HH:=Lib.hid eH
     clear hh hu hv hu' hv' eH h0
     simp only [lastI] at c0 c1 c2
     have hcase:(u' == u)=false∨((u' == u)=true∧(v' == v)=false):=by
      by_cases e:u'=u
      ·refine .inr ⟨by simp [e],?_⟩
       rw [Bool.eq_false_iff];intro h
       exact hne ⟨e.symm,(eq_e h).symm⟩
      ·exact .inl (by simp [e])
     clear hne
     rcases hcase with e1|⟨e1,e2⟩
     all_goals
      go_wp2_with (first
       | (go_at_call 74;with_reducible refine (Q3.out _).mono ?_;rintro e w' ⟨rfl,hb⟩;obtain ⟨X3,rfl,hl3,hm3⟩:=later (X.w.heap.size) hb (by first|exact Nat.le_refl _|go_size);clear hb;(try simp only [q9A,q9B,q9D] at hm3)))
      (refine wp_region_later (X3.w.heap.size+1) (by kernel_rfl) (by kernel_rfl) (by go_size) ?_;(repeat (go_big_quiet_step ((first|(go_at_call 74;exact Later.call _ (Nat.le_trans (by go_size) (Later.is _).size) (Q4.out _))))));refine wpQuiet_nil ?_;intro Xq hlq hmq)
      go_wp2
      (try rw [Exit.noGoto_ret])
      refine bodyPost_ret (by simp only [results,Tryz.results61];go_simp;all_goals rfl) rfl ⟨?_,?_⟩
      ·rw [HH.out];rfl
      ·exact q9l
   ·obtain rfl:k=17:=by omega
    have eH:homeH a b c d=16:=by
     unfold homeH
     rw [homeLv_top (.inl (hd.out 16 (by omega)))];rfl
    simp only [lastI] at c0 c1 c2
    go_wp2
    (try rw [Exit.noGoto_ret])
    refine bodyPost_ret (by simp only [results,Tryz.results61];go_simp;all_goals rfl) rfl ⟨?_,?_⟩
    ·rw [eH];rfl
    ·exact q9l
 ·rw [hr] at p2 ⊢
  have P2:=Lib.hid p2
  clear p2 hr
  go_enter Tryz.func61,Tryz.ntmps61
  go_wp2
  go_step3
  go_wp2_with (first
   | (go_at_call 32;refine (P2.out _).mono ?_;rintro e w' ⟨rfl,hb⟩;obtain ⟨X2,rfl,hl2,hm2⟩:=later (w.heap.size+2) hb (by first|exact Nat.le_refl _|go_size);clear hb;(try simp only [q9A,q9B,q9D] at hm2)))
  (try rw [Exit.noGoto_ret])
  refine bodyPost_ret (by simp only [results,Tryz.results61];go_simp;all_goals (first|rfl|simp [sel])) rfl ⟨rfl,?_⟩
  exact q9o
end Go.Proofs.YthlijfligikciaaGreat
namespace Go.Proofs.YthlijfligikciaaGreat
open Go.RowKit Go.Maps
set_option linter.unusedSimpArgs false
set_option linter.unusedVariables false
set_option maxRecDepth 2000
def eqC (a b c a' b' c':Int):Bool:=decide (a=a'∧b=b'∧c=c')
set_option maxHeartbeats 4000000 in
theorem eqIn_cell (a b c a' b' c':Int) (w:World):(Op.equalIn 10000 83 (.agg #[.int .i64 a, .int .i64 b, .int .i64 c]) (.agg #[.int .i64 a', .int .i64 b', .int .i64 c'])).run Tryz.prog w = .ok (eqC a b c a' b' c') w:=by
 have hS:Tryz.prog.underlying 83=some (.struct (Tryz.prog.fieldsOf 83)):=by kernel_rfl
 have hp:Tryz.prog.stoodInHeld 83=false:=by kernel_rfl
 rw [show (10000:Nat)=9999+1 from rfl,run_equalIn_agg w 9999 83 _ _ hS hp]
 unfold eqC
 simp only [Program.fieldsOf,Tryz.underlying83]
 clear hS hp
 go_simp
 repeat' split
 all_goals simp_all
theorem eql_cell (a b c a' b' c':Int) (w:World):(binOp .eql 83 (.agg #[.int .i64 a, .int .i64 b, .int .i64 c]) (.agg #[.int .i64 a', .int .i64 b', .int .i64 c'])).run Tryz.prog w = .ok (.bool (eqC a b c a' b' c')) w:=by
 rw [run_eql_struct,eqIn_cell]
 rfl
set_option maxHeartbeats 4000000 in
theorem way_any (s:Sh) (l x y:Int) (w:World) (hok:okS s=true) (h0:0≤l) (h1:l < hlS s):
  Calls Tryz.prog 104 #[.agg #[.int .i64 l, .int .i64 x, .int .i64 y], .agg #[.int .i64 (hlS s), .int .i64 (s.a / sd (hlS s)), .int .i64 (s.b / sd (hlS s))]] w fun e w'=>e = .returned (.int .i64 ((kidJ l s.a s.b).val:Nat))∧Below w.heap.size w w':=by
 rw [kidJ_val]
 have hr:=right_iff.1 hok
 have hh:=hlS_rng s
 have pa:=fun (Y:World)=>above_any (hlS s) (s.a / sd (hlS s)) (s.b / sd (hlS s)) (l+1) Y
 rw [show aboveB (hlS s) (s.a / sd (hlS s)) (s.b / sd (hlS s)) (l+1)=true from above_iff.2 ⟨home_right hok,by omega,by omega⟩] at pa
 simp only [sel,if_true,way_cell h0 h1] at pa
 have hx0:0≤s.a / sd (l+1):=Int.ediv_nonneg hr.1 (by have:=sd_pos (l+1);omega)
 have hy0:0≤s.b / sd (l+1):=Int.ediv_nonneg hr.2.2.1 (by have:=sd_pos (l+1);omega)
 obtain ⟨cx,hcx⟩:∃ c,s.a / sd (l+1)=c:=⟨_,rfl⟩
 obtain ⟨cy,hcy⟩:∃ c,s.b / sd (l+1)=c:=⟨_,rfl⟩
 rw [hcx] at hx0
 rw [hcy] at hy0
 rw [hcx,hcy] at pa ⊢
 obtain ⟨hh',hhe⟩:∃ c,hlS s=c:=⟨_,rfl⟩
 obtain ⟨hx',hxe⟩:∃ c,s.a / sd (hlS s)=c:=⟨_,rfl⟩
 obtain ⟨hy',hye⟩:∃ c,s.b / sd (hlS s)=c:=⟨_,rfl⟩
 rw [hxe,hye,hhe] at pa ⊢
 have PA:=Lib.hid pa
 have hl16:l < 16:=by omega
 clear pa hcx hcy hhe hxe hye hr hh h1 hok
 go_enter Tryz.func104,Tryz.ntmps104
 go_wp2_with (first
  | (go_at_call 132;refine (PA.out _).mono ?_;rintro e w' ⟨rfl,hb⟩;obtain ⟨X1,rfl,hl1,hm1⟩:=later _ hb (Nat.le_refl _);clear hb;(try simp only [q9A,q9B,q9D] at hm1 hl1)))
 go_ret
 exact ⟨rfl,q9l⟩
set_option maxHeartbeats 4000000 in
theorem freshC_any (l x y:Int) (w:World):Calls Tryz.prog 57 #[.agg #[.int .i64 l, .int .i64 x, .int .i64 y]] w fun e w'=>∃ b m,e = .returned (.pointer (some ⟨b,0,none⟩))∧(CT.node b m [] fun _ => .nil).In w' 0 l x y∧b≠m∧(w.heap.size≤b∧w.heap.size≤m)∧Below w.heap.size w w':=by
 have hmm:=@run_makeMap Tryz.prog
 go_enter Tryz.func57,Tryz.ntmps57
 go_wp2_with fail
 go_ret
 refine ⟨_,w.heap.size+1,rfl,⟨⟨by simp,fun j hj=>?_⟩,⟨by simp,fun s hs=>by (cases hs),?_⟩,fun j=>trivial⟩,by omega,⟨by omega,by omega⟩,q9l⟩
 ·match j,hj with
  | 0,_|1,_|2,_|3,_|4,_|5,_|6,_|7,_|8,_=>exact ⟨by go_simp <;> rfl,by go_simp⟩
 ·have h9:=m1_made (w.alloc (.cells #[.int .i64 l, .int .i64 x, .int .i64 y] 83))
  rw [show (w.alloc (.cells #[.int .i64 l, .int .i64 x, .int .i64 y] 83)).heap.size=w.heap.size+1 by simp] at h9
  exact h9.same (((Below.refl ((w.alloc (.cells #[.int .i64 l, .int .i64 x, .int .i64 y] 83)).alloc (.map #[] 0)).heap.size _).alloc (Nat.le_refl _) _).block _ (by simp))
structure PutC (w w':World) (z:Nat) (l x y:Int) (t t':CT) (s:Sh):Prop where
 inn:t'.In w' (z+1) l x y
 at_:t'.At l x y
 sep:t'.Sep
 ptr:t'.ptr=t.ptr
 shs:t'.sh.Perm (s :: t.sh)
 bls:∀ b,t'.Bl b→t.Bl b∨w.heap.size≤b
 chg:Chg t.Bl w w'
theorem ctF_congr {l x y:Int} {k k':Fin 4→CT} {n m:Nat} (h:∀ j,(k j).ptr=(k' j).ptr):ctF l x y k n m=ctF l x y k' n m:=by
 unfold ctF
 rw [h 0,h 1,h 2,h 3]
theorem put_here {w w':World} {z:Nat} {l x y:Int} {b m:Nat} {L:List Sh} {k:Fin 4→CT} {s:Sh} (h:(CT.node b m L k).In w z l x y) (ha:(CT.node b m L k).At l x y) (hs:(CT.node b m L k).Sep) (hu:unS l x y s) (hl:hlS s=l) (hw:wf64 s.id) (hf:∀ u ∈ (CT.node b m L k).sh,u.id≠s.id)
  (hc:CellsAt w' b 9 (ctF l x y k ((CT.node b m L k).sh.length+1) m)) (hm:M1 w' m (z+1) (fun x=>if x=s.id then some (shV s) else shS L x)) (hg:Chg (fun j=>j=b∨j=m) w w'):PutC w w' z l x y (.node b m L k) (.node b m (s :: L) k) s:=by
 refine ⟨⟨hc,⟨?_,?_,?_⟩,fun j=>in_more (Nat.le_succ z) _ _ _ _ (in_chg hg _ _ _ _ (h.2.2 j) (fun c hc e=>?_))⟩,⟨ha.1,fun u hu'=>?_,ha.2.2⟩,hs,rfl,List.Perm.refl _,fun c hc => .inl hc,hg.mono (fun c hc => .inl (hc.elim .inl (fun e => .inr (.inl e))))⟩
 ·rw [List.map_cons,List.nodup_cons]
  refine ⟨fun hm=>?_,h.2.1.ids⟩
  obtain ⟨u,hu',e⟩:=List.mem_map.1 hm
  exact hf u (by rw [sh_node];exact List.mem_append_left _ hu') e
 ·intro u hu'
  rcases List.mem_cons.1 hu' with rfl|hu'
  ·exact hw
  ·exact h.2.1.wf u hu'
 ·rw [shS_cons];exact hm
 ·have:=hs.2.1 j c hc
  exact e.elim this.1 this.2
 ·rcases List.mem_cons.1 hu' with rfl|hu'
  ·exact ⟨hu,hl⟩
  ·exact ha.2.1 u hu'
theorem put_upC {w W w':World} {z:Nat} {l x y:Int} {b m:Nat} {L:List Sh} {k:Fin 4→CT} {j:Fin 4} {u t':CT} {s:Sh} (h:(CT.node b m L k).In w z l x y) (ha:(CT.node b m L k).At l x y) (hs:(CT.node b m L k).Sep)
  (hub:∀ c,u.Bl c→(k j).Bl c∨w.heap.size≤c) (hush:u.sh=(k j).sh) (hcW:CellsAt W b 9 (ctF l x y (updC k j u) ((CT.node b m L k).sh.length+1) m)) (hgW:Chg (fun i=>i=b) w W)
  (hp:PutC W w' z (l+1) (kx x j) (ky y j) u t' s):PutC w w' z l x y (.node b m L k) (.node b m L (updC k j t')) s:=by
 have hbw:=h.1.1
 have hmw:=h.2.1.lt
 have hkj:∀ c,(k j).Bl c→c < w.heap.size:=fun c hc=>in_lt _ _ _ _ (h.2.2 j) c hc
 have hsW:=hgW.size
 have hnb:∀ c,u.Bl c→c≠b∧c≠m:=fun c hc=>by
  rcases hub c hc with e|e
  ·exact hs.2.1 j c e
  ·omega
 have htb:∀ c,t'.Bl c→(k j).Bl c∨w.heap.size≤c:=fun c hc=>(hp.bls c hc).elim (hub c) (fun e => .inr (by omega))
 have hgg:Chg (fun c=>c=b∨(k j).Bl c) w w':=(hgW.mono (X':=fun c=>c=b∨(k j).Bl c) (fun c e => .inl (.inl e))).trans hp.chg (fun c hc=>(hub c hc).elim (fun e => .inl (.inr e)) .inr)
 have hperm:(CT.node b m L (updC k j t')).sh.Perm (s :: (CT.node b m L k).sh):=by
  rw [sh_node,sh_node]
  have h9:=kids_upd (k:=k) (j:=j) (t:=t') (s:=s) (by rw [← hush];exact hp.shs)
  exact (h9.append_left L).trans List.perm_middle
 have hptr:∀ i,(updC k j u i).ptr=(updC k j t' i).ptr:=fun i=>by
  by_cases e:i=j
  ·subst e;rw [updC_same,updC_same];exact hp.ptr.symm
  ·rw [updC_other e,updC_other e]
 refine ⟨⟨?_,?_,fun i=>?_⟩,⟨ha.1,ha.2.1,fun i=>?_⟩,⟨hs.1,fun i c hc=>?_,fun i i' hne c hc hc'=>?_,fun i=>?_⟩,rfl,hperm,fun c hc=>?_,?_⟩
 ·rw [hperm.length_eq,List.length_cons,← ctF_congr hptr]
  exact hcW.chg hp.chg (fun e=>(hnb b e).1 rfl)
 ·refine (h.2.1.more (Nat.le_succ z)).same ((hp.chg.block m (by omega) (fun e=>(hnb m e).2 rfl)).trans (hgW.block m hmw (fun e=>hs.1 e.symm)))
 ·by_cases e:i=j
  ·subst e;rw [updC_same];exact hp.inn
  ·rw [updC_other e]
   refine in_more (Nat.le_succ z) _ _ _ _ (in_chg hgg _ _ _ _ (h.2.2 i) (fun c hc e'=>?_))
   rcases e' with e'|e'
   ·exact (hs.2.1 i c hc).1 e'
   ·exact hs.2.2.1 i j e c hc e'
 ·by_cases e:i=j
  ·subst e;rw [updC_same];exact hp.at_
  ·rw [updC_other e];exact ha.2.2 i
 ·by_cases e:i=j
  ·subst e
   rw [updC_same] at hc
   rcases htb c hc with e'|e'
   ·exact hs.2.1 i c e'
   ·omega
  ·rw [updC_other e] at hc;exact hs.2.1 i c hc
 ·by_cases e:i=j
  ·subst e
   rw [updC_same] at hc
   rw [updC_other (fun e'=>hne e'.symm)] at hc'
   rcases htb c hc with e'|e'
   ·exact hs.2.2.1 i i' hne c e' hc'
   ·have:=in_lt _ _ _ _ (h.2.2 i') c hc';omega
  ·rw [updC_other e] at hc
   by_cases e2:i'=j
   ·subst e2
    rw [updC_same] at hc'
    rcases htb c hc' with e'|e'
    ·exact hs.2.2.1 i i' hne c hc e'
    ·have:=in_lt _ _ _ _ (h.2.2 i) c hc;omega
   ·rw [updC_other e2] at hc';exact hs.2.2.1 i i' hne c hc hc'
 ·by_cases e:i=j
  ·subst e;rw [updC_same];exact hp.sep
  ·rw [updC_other e];exact hs.2.2.2 i
 ·rcases hc with e|e|⟨i,hi⟩
  ·exact .inl (.inl e)
  ·exact .inl (.inr (.inl e))
  ·by_cases e:i=j
   ·subst e
    rw [updC_same] at hi
    exact (htb c hi).elim (fun e => .inl (.inr (.inr ⟨i,e⟩))) .inr
   ·rw [updC_other e] at hi
    exact .inl (.inr (.inr ⟨i,hi⟩))
 ·exact hgg.mono (fun c hc => .inl (hc.elim .inl (fun e => .inr (.inr ⟨j,e⟩))))
end Go.Proofs.YthlijfligikciaaGreat
