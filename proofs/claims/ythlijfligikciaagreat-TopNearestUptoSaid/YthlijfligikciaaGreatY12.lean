/- A part of one proof: PqP Flat QuA. No condition. -/
import Derived.Test.YthlijfligikciaaGreatY11
import Derived.Test.YthlijfligikciaaGreatProg
import Derived.Test.YthlijfligikciaaGreatY10
import Derived.BigQuiet
namespace Go.Proofs.YthlijfligikciaaGreat
open Go
set_option linter.unusedSimpArgs false
set_option linter.unusedVariables false
structure Rc where
 id:Int
 x:Int
 y:Int
 label:Int
structure Nd where
 l:Int
 x:Int
 y:Int
 kids:Fin 4→Int
 many:Nat
 split:Bool
 rs:List Rc
abbrev NdP:=Nd × (Option Addr × Nat)
def noKids:Fin 4→Int:=fun _ => -1
def nd0:NdP:=(⟨0,0,0,noKids,0,false,[]⟩,(none,0))
def ndAt (N:List NdP) (i:Nat):NdP:=N.getD i nd0
theorem ndAt_lt {N:List NdP} {i:Nat} (h:i < N.length):ndAt N i=N[i]:=by simp [ndAt,List.getD,List.getElem?_eq_getElem h]
theorem ndAt_set {N:List NdP} {i j:Nat} {n:NdP} (hi:i < N.length):ndAt (N.set i n) j=if j=i then n else ndAt N j:=by
 unfold ndAt List.getD
 rw [List.getElem?_set]
 by_cases h:i=j
 ·subst h;simp [hi]
 ·rw [if_neg h,if_neg (fun e=>h e.symm)]
theorem ndAt_app {N M:List NdP} {i:Nat} (h:i < N.length):ndAt (N ++ M) i=ndAt N i:=by simp [ndAt,List.getD,List.getElem?_append_left h]
theorem ndAt_new {N:List NdP} {n:NdP}:ndAt (N ++ [n]) N.length=n:=by simp [ndAt,List.getD]
inductive QT where
 | leaf (i:Nat) (rs:List Rc)
 | node (i:Nat) (k:Fin 4→QT)
namespace QT
def at_:QT→Nat
 | leaf i _=>i
 | node i _=>i
def isNode:QT→Bool
 | leaf _ _=>false
 | node _ _=>true
def rs:QT→List Rc
 | leaf _ rs=>rs
 | node _ k=>(k 0).rs ++ ((k 1).rs ++ ((k 2).rs ++ (k 3).rs))
def ix:QT→List Nat
 | leaf i _=>[i]
 | node i k=>i :: ((k 0).ix ++ ((k 1).ix ++ ((k 2).ix ++ (k 3).ix)))
end QT
theorem at_mem (t:QT):t.at_ ∈ t.ix:=by cases t <;> simp [QT.at_,QT.ix]
theorem ix_kid {i:Nat} {k:Fin 4→QT} (j:Fin 4):∀ x ∈ (k j).ix,x ∈ (QT.node i k).ix:=fun x hx=>by
 simp only [QT.ix,List.mem_cons,List.mem_append]
 match j with
 | 0=>exact .inr (.inl hx)
 | 1=>exact .inr (.inr (.inl hx))
 | 2=>exact .inr (.inr (.inr (.inl hx)))
 | 3=>exact .inr (.inr (.inr (.inr hx)))
theorem ix_kids {i:Nat} {k:Fin 4→QT} {x:Nat} (h:x ∈ (QT.node i k).ix):x=i∨∃ j,x ∈ (k j).ix:=by
 simp only [QT.ix,List.mem_cons,List.mem_append] at h
 rcases h with h|h|h|h|h
 ·exact .inl h
 ·exact .inr ⟨0,h⟩
 ·exact .inr ⟨1,h⟩
 ·exact .inr ⟨2,h⟩
 ·exact .inr ⟨3,h⟩
theorem rs_kid {i:Nat} {k:Fin 4→QT} {r:Rc}:r ∈ (QT.node i k).rs↔∃ j,r ∈ (k j).rs:=by
 simp only [QT.rs,List.mem_append]
 constructor
 ·rintro (h|h|h|h)
  ·exact ⟨0,h⟩
  ·exact ⟨1,h⟩
  ·exact ⟨2,h⟩
  ·exact ⟨3,h⟩
 ·rintro ⟨j,h⟩
  match j with
  | 0=>exact .inl h
  | 1=>exact .inr (.inl h)
  | 2=>exact .inr (.inr (.inl h))
  | 3=>exact .inr (.inr (.inr h))
structure Apart4 (i:Nat) (k:Fin 4→QT):Prop where
 root:∀ j,i ∉ (k j).ix
 kids:∀ j j',j≠j'→∀ x ∈ (k j).ix,x ∉ (k j').ix
 each:∀ j,(k j).ix.Nodup
theorem nodup_node {i:Nat} {k:Fin 4→QT}:(QT.node i k).ix.Nodup↔Apart4 i k:=by
 constructor
 ·intro h
  simp only [QT.ix,List.nodup_cons,List.mem_append,not_or,List.nodup_append] at h
  obtain ⟨⟨r0,r1,r2,r3⟩,n0,⟨n1,⟨n2,n3,d2⟩,d1⟩,d0⟩:=h
  have d01:∀ x ∈ (k 0).ix,x ∉ (k 1).ix:=fun x hx hy=>d0 x hx x (.inl hy) rfl
  have d02:∀ x ∈ (k 0).ix,x ∉ (k 2).ix:=fun x hx hy=>d0 x hx x (.inr (.inl hy)) rfl
  have d03:∀ x ∈ (k 0).ix,x ∉ (k 3).ix:=fun x hx hy=>d0 x hx x (.inr (.inr hy)) rfl
  have d12:∀ x ∈ (k 1).ix,x ∉ (k 2).ix:=fun x hx hy=>d1 x hx x (.inl hy) rfl
  have d13:∀ x ∈ (k 1).ix,x ∉ (k 3).ix:=fun x hx hy=>d1 x hx x (.inr hy) rfl
  have d23:∀ x ∈ (k 2).ix,x ∉ (k 3).ix:=fun x hx hy=>d2 x hx x hy rfl
  refine ⟨fun j=>?_,fun j j' hj x hx hy=>?_,fun j=>?_⟩
  ·match j with
   | 0=>exact r0
   | 1=>exact r1
   | 2=>exact r2
   | 3=>exact r3
  ·match j,j',hj with
   | 0,1,_=>exact d01 x hx hy
   | 0,2,_=>exact d02 x hx hy
   | 0,3,_=>exact d03 x hx hy
   | 1,0,_=>exact d01 x hy hx
   | 1,2,_=>exact d12 x hx hy
   | 1,3,_=>exact d13 x hx hy
   | 2,0,_=>exact d02 x hy hx
   | 2,1,_=>exact d12 x hy hx
   | 2,3,_=>exact d23 x hx hy
   | 3,0,_=>exact d03 x hy hx
   | 3,1,_=>exact d13 x hy hx
   | 3,2,_=>exact d23 x hy hx
   | 0,0,h|1,1,h|2,2,h|3,3,h=>exact h rfl
  ·match j with
   | 0=>exact n0
   | 1=>exact n1
   | 2=>exact n2
   | 3=>exact n3
 ·intro h
  simp only [QT.ix,List.nodup_cons,List.mem_append,not_or,List.nodup_append]
  refine ⟨⟨h.root 0,h.root 1,h.root 2,h.root 3⟩,h.each 0,⟨h.each 1,⟨h.each 2,h.each 3,fun x hx y hy e=>?_⟩,fun x hx y hy e=>?_⟩,fun x hx y hy e=>?_⟩
  ·subst e;exact h.kids 2 3 (by decide) x hx hy
  ·subst e
   rcases hy with hy|hy
   ·exact h.kids 1 2 (by decide) x hx hy
   ·exact h.kids 1 3 (by decide) x hx hy
  ·subst e
   rcases hy with hy|hy|hy
   ·exact h.kids 0 1 (by decide) x hx hy
   ·exact h.kids 0 2 (by decide) x hx hy
   ·exact h.kids 0 3 (by decide) x hx hy
def inC (l x y:Int) (r:Rc):Prop:=fitsB r.x r.y=true∧r.x / sd l=x∧r.y / sd l=y
def kx (x:Int) (j:Fin 4):Int:=2*x+(j.val % 2:Nat)
def ky (y:Int) (j:Fin 4):Int:=2*y+(j.val / 2:Nat)
def Holds (N:List NdP):Int→Int→Int→QT→Prop
 | l,x,y, .leaf i rs=>i < N.length∧(∃ p,ndAt N i=(⟨l,x,y,noKids,rs.length,false,rs⟩,p))∧(∀ r ∈ rs,inC l x y r)∧(l < 16→rs.length≤3)
 | l,x,y, .node i k=>i < N.length∧ndAt N i=(⟨l,x,y,fun j=>((k j).at_:Nat),(QT.node i k).rs.length,true,[]⟩,(none,0))∧l < 16∧(∀ j,i < (k j).at_)∧∀ j,Holds N (l+1) (kx x j) (ky y j) (k j)
theorem holds_lt {N:List NdP}:∀ (t:QT) (l x y:Int),Holds N l x y t→∀ i ∈ t.ix,i < N.length
 | .leaf i rs,l,x,y,h,j,hj=>by
  obtain rfl:=List.mem_singleton.1 hj
  exact h.1
 | .node i k,l,x,y,h,j,hj=>by
  rcases ix_kids hj with rfl|⟨m,hm⟩
  ·exact h.1
  ·exact holds_lt (k m) _ _ _ (h.2.2.2.2 m) j hm
theorem holds_agree {N N':List NdP}:∀ (t:QT) (l x y:Int),Holds N l x y t→(∀ i ∈ t.ix,i < N'.length∧ndAt N' i=ndAt N i)→Holds N' l x y t
 | .leaf i rs,l,x,y,h,ha=>by
  obtain ⟨h1,⟨p,hp⟩,h2⟩:=h
  have:=ha i (by simp [QT.ix])
  exact ⟨this.1,⟨p,this.2.trans hp⟩,h2⟩
 | .node i k,l,x,y,h,ha=>by
  obtain ⟨h1,hp,h2,h3,h4⟩:=h
  have:=ha i (by simp [QT.ix])
  exact ⟨this.1,this.2.trans hp,h2,h3,fun j=>holds_agree (k j) _ _ _ (h4 j) (fun m hm=>ha m (ix_kid j m hm))⟩
theorem holds_in {N:List NdP}:∀ (t:QT) (l x y:Int),Holds N l x y t→∀ r ∈ t.rs,fitsB r.x r.y=true
 | .leaf i rs,l,x,y,h,r,hr=>(h.2.2.1 r hr).1
 | .node i k,l,x,y,h,r,hr=>by
  obtain ⟨j,hj⟩:=rs_kid.1 hr
  exact holds_in (k j) _ _ _ (h.2.2.2.2 j) r hj
structure PutR (N N':List NdP) (l x y:Int) (t t':QT) (r:Rc):Prop where
 holds:Holds N' l x y t'
 root:t'.at_=t.at_
 recs:t'.rs.Perm (r :: t.rs)
 len:N.length≤N'.length
 stand:∀ i,i < N.length→i ∉ t.ix→ndAt N' i=ndAt N i
 ixs:∀ i ∈ t'.ix,i ∈ t.ix∨N.length≤i
 nod:t'.ix.Nodup
 isn:t.isNode=true→t'.isNode=true
def levT (t:QT) (l:Int):Int:=l+(if t.isNode then 1 else 0)
def addB (t:QT) (l:Int):Nat:=if t.rs.length≤2 then 0 else (4*(16 - levT t l)).toNat
theorem rs_kid_le {i:Nat} {k:Fin 4→QT} (j:Fin 4):(k j).rs.length≤(QT.node i k).rs.length:=by
 simp only [QT.rs,List.length_append]
 match j with
 | 0|1|2|3=>omega
theorem addB_kid {i:Nat} {k:Fin 4→QT} {l:Int} (j:Fin 4):addB (k j) (l+1)≤addB (.node i k) l:=by
 unfold addB levT
 have h:=rs_kid_le (i:=i) (k:=k) j
 have h2:(QT.node i k).isNode=true:=rfl
 rw [h2]
 simp only [if_true]
 split <;> split <;> (try split) <;> omega
theorem levT_kid {i:Nat} {k:Fin 4→QT} {l:Int} (j:Fin 4):levT (.node i k) l≤levT (k j) (l+1):=by
 unfold levT
 have h2:(QT.node i k).isNode=true:=rfl
 rw [h2]
 simp only [if_true]
 split <;> omega
def updK (k:Fin 4→QT) (j:Fin 4) (t:QT):Fin 4→QT:=fun m=>if m=j then t else k m
theorem perm_upd {k:Fin 4→QT} {j:Fin 4} {t:QT} {r:Rc} {i:Nat} (h:t.rs.Perm (r :: (k j).rs)):(QT.node i (updK k j t)).rs.Perm (r :: (QT.node i k).rs):=by
 simp only [QT.rs,updK]
 match j,h with
 | 0,h=>simpa using List.Perm.append_right _ h
 | 1,h=>
  simp only [show (0:Fin 4)=1↔False by decide,show (2:Fin 4)=1↔False by decide,show (3:Fin 4)=1↔False by decide,if_false,if_true]
  exact (List.Perm.append_left _ (List.Perm.append_right _ h)).trans (by simp)
 | 2,h=>
  simp only [show (0:Fin 4)=2↔False by decide,show (1:Fin 4)=2↔False by decide,show (3:Fin 4)=2↔False by decide,if_false,if_true]
  have h1:=List.Perm.append_left (k 1).rs (List.Perm.append_right (k 3).rs h)
  have h2:=h1.trans (by simp:((k 1).rs ++ (r :: (k 2).rs ++ (k 3).rs)).Perm (r :: ((k 1).rs ++ ((k 2).rs ++ (k 3).rs))))
  exact (List.Perm.append_left (k 0).rs h2).trans List.perm_middle
 | 3,h=>
  simp only [show (0:Fin 4)=3↔False by decide,show (1:Fin 4)=3↔False by decide,show (2:Fin 4)=3↔False by decide,if_false,if_true]
  have h1:=(List.Perm.append_left (k 2).rs h).trans List.perm_middle
  have h2:=(List.Perm.append_left (k 1).rs h1).trans List.perm_middle
  exact (List.Perm.append_left (k 0).rs h2).trans List.perm_middle
theorem holds_ndlt {N:List NdP} {l x y:Int} {t:QT} (h:Holds N l x y t):t.at_ < N.length:=holds_lt t l x y h _ (at_mem t)
theorem put_down {N:List NdP} {l x y:Int} {i:Nat} {k:Fin 4→QT} (h:Holds N l x y (.node i k)) (hn:(QT.node i k).ix.Nodup) (j:Fin 4):
  Holds (N.set i (⟨l,x,y,fun m=>((k m).at_:Nat),(QT.node i k).rs.length+1,true,[]⟩,(none,0))) (l+1) (kx x j) (ky y j) (k j):=by
 have ha:=nodup_node.1 hn
 refine holds_agree (k j) _ _ _ (h.2.2.2.2 j) (fun m hm=>⟨?_,?_⟩)
 ·rw [List.length_set];exact holds_lt _ _ _ _ (h.2.2.2.2 j) m hm
 ·rw [ndAt_set h.1,if_neg (fun e=>ha.root j (by rw [← e];exact hm))]
theorem put_up {N N2:List NdP} {l x y:Int} {i:Nat} {k:Fin 4→QT} {j:Fin 4} {c:QT} {r:Rc} (h:Holds N l x y (.node i k)) (hn:(QT.node i k).ix.Nodup)
  (hp:PutR (N.set i (⟨l,x,y,fun m=>((k m).at_:Nat),(QT.node i k).rs.length+1,true,[]⟩,(none,0))) N2 (l+1) (kx x j) (ky y j) (k j) c r):
  PutR N N2 l x y (.node i k) (.node i (updK k j c)) r:=by
 have ha:=nodup_node.1 hn
 have hlen:=hp.len
 rw [List.length_set] at hlen
 have hst:∀ m,m < N.length→m ∉ (k j).ix→ndAt N2 m=if m=i then (⟨l,x,y,fun m=>((k m).at_:Nat),(QT.node i k).rs.length+1,true,[]⟩,(none,0)) else ndAt N m:=fun m hm hx=>by
  rw [hp.stand m (by rw [List.length_set];exact hm) hx,ndAt_set h.1]
 have hat:∀ m,(updK k j c m).at_=(k m).at_:=fun m=>by
  unfold updK
  by_cases e:m=j
  ·rw [if_pos e,hp.root,e]
  ·rw [if_neg e]
 have hrs:=perm_upd (i:=i) hp.recs
 refine ⟨⟨by have:=h.1;omega,?_,h.2.2.1,fun m=>by rw [hat m];exact h.2.2.2.1 m,fun m=>?_⟩,rfl,hrs,hlen,fun m hm hx=>?_,fun m hm=>?_,?_,fun _=>rfl⟩
 ·rw [hst i h.1 (ha.root j),if_pos rfl,hrs.length_eq]
  simp only [hat,List.length_cons]
 ·unfold updK
  by_cases e:m=j
  ·rw [if_pos e,e];exact hp.holds
  ·rw [if_neg e]
   refine holds_agree (k m) _ _ _ (h.2.2.2.2 m) (fun z hz=>?_)
   have hzl:=holds_lt _ _ _ _ (h.2.2.2.2 m) z hz
   refine ⟨by omega,?_⟩
   rw [hst z hzl (ha.kids m j e z hz),if_neg (fun e'=>ha.root m (by rw [← e'];exact hz))]
 ·have h1:m ∉ (k j).ix:=fun e=>hx (ix_kid j m e)
  have h2:m≠i:=fun e=>hx (by rw [e];simp [QT.ix])
  rw [hst m hm h1,if_neg h2]
 ·rcases ix_kids hm with rfl|⟨z,hz⟩
  ·exact .inl (by simp [QT.ix])
  ·unfold updK at hz
   by_cases e:z=j
   ·rw [if_pos e] at hz
    rcases hp.ixs m hz with h1|h1
    ·exact .inl (ix_kid j m h1)
    ·rw [List.length_set] at h1;exact .inr h1
   ·rw [if_neg e] at hz
    exact .inl (ix_kid z m hz)
 ·have hc:∀ z ∈ c.ix,z ∈ (k j).ix∨N.length≤z:=fun z hz=>by
   have:=hp.ixs z hz
   rwa [List.length_set] at this
  refine nodup_node.2 ⟨fun z=>?_,fun z z' hzz u hu=>?_,fun z=>?_⟩
  ·unfold updK
   by_cases e:z=j
   ·rw [if_pos e]
    intro hi
    rcases hc i hi with h1|h1
    ·exact ha.root j h1
    ·have:=h.1;omega
   ·rw [if_neg e];exact ha.root z
  ·unfold updK at hu ⊢
   by_cases e:z=j
   ·subst e
    rw [if_pos rfl] at hu
    rw [if_neg (fun e=>hzz e.symm)]
    intro hu'
    rcases hc u hu with h1|h1
    ·exact ha.kids z z' hzz u h1 hu'
    ·have:=holds_lt _ _ _ _ (h.2.2.2.2 z') u hu';omega
   ·rw [if_neg e] at hu
    by_cases e':z'=j
    ·subst e'
     rw [if_pos rfl]
     intro hu'
     rcases hc u hu' with h1|h1
     ·exact ha.kids z z' hzz u hu h1
     ·have:=holds_lt _ _ _ _ (h.2.2.2.2 z) u hu;omega
    ·rw [if_neg e']
     exact ha.kids z z' hzz u hu
  ·unfold updK
   by_cases e:z=j
   ·rw [if_pos e];exact hp.nod
   ·rw [if_neg e];exact ha.each z
theorem put_leaf {N:List NdP} {l x y:Int} {i:Nat} {rs:List Rc} {r:Rc} {p:Option Addr × Nat} (h:Holds N l x y (.leaf i rs)) (hr:inC l x y r) (h3:l < 16→rs.length+1≤3):
  PutR N (N.set i (⟨l,x,y,noKids,rs.length+1,false,rs ++ [r]⟩,p)) l x y (.leaf i rs) (.leaf i (rs ++ [r])) r:=by
 refine ⟨⟨by rw [List.length_set];exact h.1,⟨p,by rw [ndAt_set h.1,if_pos rfl];simp⟩,fun z hz=>?_,fun e=>by simpa using h3 e⟩,rfl,List.perm_append_singleton _ _,by rw [List.length_set];exact Nat.le_refl _,fun m hm hx=>?_,fun m hm => .inl hm,by simp [QT.ix],fun e=>by cases e⟩
 ·rcases List.mem_append.1 hz with hz|hz
  ·exact h.2.2.1 z hz
  ·rw [List.mem_singleton.1 hz];exact hr
 ·rw [ndAt_set h.1,if_neg (fun e=>hx (by rw [e];simp [QT.ix]))]
structure PartR (N N':List NdP) (l x y:Int) (i:Nat) (rs:List Rc) (t':QT):Prop where
 holds:Holds N' l x y t'
 root:t'.at_=i
 recs:t'.rs.Perm rs
 len:N.length≤N'.length
 stand:∀ m,m < N.length→m≠i→ndAt N' m=ndAt N m
 ixs:∀ m ∈ t'.ix,m=i∨N.length≤m
 nod:t'.ix.Nodup
 isn:t'.isNode=true
def newKids (l x y:Int):List NdP:=[(⟨l+1,kx x 0,ky y 0,noKids,0,false,[]⟩,(none,0)),(⟨l+1,kx x 1,ky y 1,noKids,0,false,[]⟩,(none,0)),(⟨l+1,kx x 2,ky y 2,noKids,0,false,[]⟩,(none,0)),(⟨l+1,kx x 3,ky y 3,noKids,0,false,[]⟩,(none,0))]
def kids0 (n:Nat):Fin 4→QT:=fun j => .leaf (n+j.val) []
theorem part_start {N:List NdP} {l x y:Int} {i:Nat} (hi:i < N.length) (hl:l < 16):
  PartR N ((N ++ newKids l x y).set i (⟨l,x,y,fun j=>((N.length+j.val:Nat):Int),0,true,[]⟩,(none,0))) l x y i [] (.node i (kids0 N.length)):=by
 have hlen:(N ++ newKids l x y).length=N.length+4:=by simp [newKids]
 have hi':i < (N ++ newKids l x y).length:=by omega
 refine ⟨⟨by rw [List.length_set];omega,by rw [ndAt_set hi',if_pos rfl];rfl,hl,fun j=>by show i < N.length+j.val;omega,fun j=>?_⟩,rfl,List.Perm.refl _,by rw [List.length_set];omega,fun m hm hx=>?_,fun m hm=>?_,?_,rfl⟩
 ·refine ⟨by rw [List.length_set];have:=j.isLt;omega,⟨(none,0),?_⟩,(fun r hr=>by cases hr),fun _=>by decide⟩
  rw [ndAt_set hi',if_neg (by omega)]
  unfold ndAt List.getD
  rw [List.getElem?_append_right (by omega)]
  rw [Nat.add_sub_cancel_left]
  match j with
  | 0|1|2|3=>rfl
 ·rw [ndAt_set hi',if_neg hx,ndAt_app hm]
 ·rcases ix_kids hm with rfl|⟨j,hj⟩
  ·exact .inl rfl
  ·exact .inr (by have:m=N.length+j.val:=List.mem_singleton.1 hj;omega)
 ·refine nodup_node.2 ⟨fun j hj=>?_,fun j j' hne z hz hz'=>?_,fun j=>by simp [kids0,QT.ix]⟩
  ·have:i=N.length+j.val:=List.mem_singleton.1 hj;omega
  ·have h1:z=N.length+j.val:=List.mem_singleton.1 hz
   have h2:z=N.length+j'.val:=List.mem_singleton.1 hz'
   exact hne (Fin.ext (by omega))
theorem part_step {N N1 N2:List NdP} {l x y:Int} {i:Nat} {rs:List Rc} {r:Rc} {t1 t2:QT} (h:PartR N N1 l x y i rs t1) (hp:PutR N1 N2 l x y t1 t2 r):PartR N N2 l x y i (rs ++ [r]) t2:=by
 have hl1:=h.len
 refine ⟨hp.holds,hp.root.trans h.root,hp.recs.trans ((List.Perm.cons r h.recs).trans (List.perm_append_singleton r rs).symm),Nat.le_trans hl1 hp.len,fun m hm hx=>?_,fun m hm=>?_,hp.nod,hp.isn h.isn⟩
 ·rw [hp.stand m (by omega) (fun e=>(h.ixs m e).elim hx (fun e=>by omega)),h.stand m hm hx]
 ·rcases hp.ixs m hm with h1|h1
  ·exact h.ixs m h1
  ·exact .inr (by omega)
theorem put_part {N N':List NdP} {l x y:Int} {i:Nat} {rs:List Rc} {r:Rc} {p:Option Addr × Nat} {t':QT} (h:Holds N l x y (.leaf i rs)) (hp:PartR (N.set i (⟨l,x,y,noKids,rs.length+1,false,rs ++ [r]⟩,p)) N' l x y i (rs ++ [r]) t'):PutR N N' l x y (.leaf i rs) t' r:=by
 have hlen:=hp.len
 rw [List.length_set] at hlen
 refine ⟨hp.holds,hp.root,hp.recs.trans (List.perm_append_singleton _ _),hlen,fun m hm hx=>?_,fun m hm=>?_,hp.nod,fun e=>by cases e⟩
 ·have hne:m≠i:=fun e=>hx (by rw [e];simp [QT.ix])
  rw [hp.stand m (by rw [List.length_set];exact hm) hne,ndAt_set h.1,if_neg hne]
 ·rcases hp.ixs m hm with h1|h1
  ·exact .inl (by rw [h1];simp [QT.ix])
  ·rw [List.length_set] at h1;exact .inr h1
section
variable {α:Type} {f:α→List Value} {k:Nat}
theorem flat_len (hw:∀ a,(f a).length=k) (N:List α):(N.flatMap f).length=N.length*k:=by
 induction N with
 | nil=>simp
 | cons a N ih=>rw [List.flatMap_cons,List.length_append,ih,hw,List.length_cons,Nat.add_mul];omega
theorem flat_get (hw:∀ a,(f a).length=k):∀ (N:List α) (i:Nat) (h:i < N.length) (j:Nat),j < k→(N.flatMap f)[i*k+j]? = (f N[i])[j]?
 | a :: N,0,_,j,hj=>by
  rw [List.flatMap_cons,Nat.zero_mul,Nat.zero_add,List.getElem?_append_left (by rw [hw];exact hj)]
  rfl
 | a :: N,i+1,h,j,hj=>by
  have ih:=flat_get hw N i (by simpa using h) j hj
  rw [List.flatMap_cons,List.getElem?_append_right (by rw [hw,Nat.add_mul];omega),hw,show (i+1)*k+j - k=i*k+j by rw [Nat.add_mul];omega,ih]
  rfl
theorem flat_set (hw:∀ a,(f a).length=k):∀ (N:List α) (i:Nat) (h:i < N.length) (j:Nat),j < k→∀ (v:Value) (n:α),(f N[i]).set j v=f n→(N.flatMap f).set (i*k+j) v=(N.set i n).flatMap f
 | a :: N,0,_,j,hj,v,n,e=>by
  rw [List.flatMap_cons,Nat.zero_mul,Nat.zero_add,List.set_append_left _ _ (by rw [hw];exact hj),List.set_cons_zero,List.flatMap_cons]
  have e':(f a).set j v=f n:=e
  rw [e']
 | a :: N,i+1,h,j,hj,v,n,e=>by
  have ih:=flat_set hw N i (by simpa using h) j hj v n e
  rw [List.flatMap_cons,List.set_append_right _ _ (by rw [hw,Nat.add_mul];omega),hw,show (i+1)*k+j - k=i*k+j by rw [Nat.add_mul];omega,ih,List.set_cons_succ,List.flatMap_cons]
theorem flat_app (N:List α) (a:α):(N ++ [a]).flatMap f=N.flatMap f ++ f a:=by simp
end
end Go.Proofs.YthlijfligikciaaGreat
namespace Go.Proofs.YthlijfligikciaaGreat
open Go.RowKit Go.Maps
set_option linter.unusedSimpArgs false
set_option linter.unusedVariables false
set_option maxRecDepth 2000
structure Chg (X:Nat→Prop) (w w':World):Prop where
 os:w'.os=w.os
 tape:w'.tape=w.tape
 output:w'.output=w.output
 size:w.heap.size≤w'.heap.size
 block:∀ k,k < w.heap.size→¬ X k→w'.heap[k]? = w.heap[k]?
section
variable {X X':Nat→Prop} {w w1 w2:World}
theorem Chg.of (h:Below w.heap.size w w1):Chg X w w1:=⟨h.os,h.tape,h.output,h.size,fun k hk _=>h.block k hk⟩
theorem Chg.ofGrown {r:Option Nat} (h:w.grownBy w1 r) (hr:∀ k,r=some k→X k):Chg X w w1:=⟨h.os,h.tape,h.output,h.size,fun k hk hx=>h.block k hk (fun e=>hx (hr k e.symm))⟩
theorem Chg.trans (h:Chg X w w1) (h':Chg X' w1 w2) (hx:∀ k,X' k→X k∨w.heap.size≤k):Chg X w w2:=
 ⟨h'.os.trans h.os,h'.tape.trans h.tape,h'.output.trans h.output,Nat.le_trans h.size h'.size,fun k hk hn=>(h'.block k (Nat.lt_of_lt_of_le hk h.size) (fun e=>(hx k e).elim hn (fun e=>by omega))).trans (h.block k hk hn)⟩
theorem Chg.mono (h:Chg X w w1) (hx:∀ k,X k→X' k∨w.heap.size≤k):Chg X' w w1:=⟨h.os,h.tape,h.output,h.size,fun k hk hn=>h.block k hk (fun e=>(hx k e).elim hn (fun e=>by omega))⟩
theorem Chg.set (h:Chg X w w1) {p:Addr} (hp:X p.block∨w.heap.size≤p.block) (u:Value):Chg X w (w1.setCell p u):=
 ⟨h.os,h.tape,h.output,by rw [World.size_setCell];exact h.size,fun k hk hn=>(Below.heap_setCell w1 p u k (fun e=>hp.elim (fun hx=>hn (by rw [e];exact hx)) (fun e'=>by omega))).trans (h.block k hk hn)⟩
theorem Chg.below {B:Nat} (h:Chg X w w1) (hx:∀ k,X k→B≤k) (hB:B≤w.heap.size):Below B w w1:=⟨h.os,h.tape,h.output,h.size,fun k hk=>h.block k (by omega) (fun e=>by have:=hx k e;omega)⟩
theorem Chg.cell (h:Chg X w w1) {p:Addr} (hp:p.block < w.heap.size) (hn:¬ X p.block):w1.cell? p=w.cell? p:=World.cell?_of_block (h.block _ hp hn)
theorem Chg.frozen (h:Chg X w w1) {p:Addr} (hp:p.block < w.heap.size) (hn:¬ X p.block):w1.frozen? p=w.frozen? p:=World.frozen?_of_block (h.block _ hp hn)
end
structure Qu (w:World) (s:Nat) (C:Option Addr) (n cc:Nat) (xs:List Value):Prop where
 c0:w.cell? ⟨s,0,none⟩=some (.slice C n cc)
 fz:w.frozen? ⟨s,0,none⟩=false
 own:w.ownsRow (s+1) 165 3 (.slice C n cc) n xs
theorem cell_lt {w:World} {p:Addr} {v:Value} (h:w.cell? p=some v):p.block < w.heap.size:=World.block_lt_of_cell? w p h
theorem Qu.lt {w:World} {s n cc:Nat} {C:Option Addr} {xs:List Value} (h:Qu w s C n cc xs):s < w.heap.size:=cell_lt h.c0
theorem Qu.rowlt {w:World} {s n cc:Nat} {C:Option Addr} {xs:List Value} (h:Qu w s C n cc xs):∀ k,gP C k→s < k∧k < w.heap.size:=fun k hk=>by
 have h1:=h.own.lt k (by rw [gOf_own];exact hk)
 exact ⟨by omega,h1.2⟩
theorem Qu.keep {w w':World} {s n cc:Nat} {C:Option Addr} {xs:List Value} (h:Qu w s C n cc xs) (hb:Below w.heap.size w w'):Qu w' s C n cc xs:=
 ⟨(hb.cell (p:=⟨s,0,none⟩) h.lt).trans h.c0,(hb.frozen (p:=⟨s,0,none⟩) h.lt).trans h.fz,own_keep h.own hb⟩
theorem own_cut {w:World} {base n size cc:Nat} {e:TypeId} {C:Option Addr} {xs:List Value} (h:w.ownsRow base e size (.slice C n cc) n xs) (hn:0 < n):w.ownsRow base e size (.slice C 0 cc) 0 []:=by
 refine ⟨by simp,?_⟩
 rcases h.2 with ⟨_,h0⟩|⟨g,cap,cur,hv,hb,hg,h1,h2,h3,h4⟩
 ·omega
 ·injection hv with e1 e2 e3
  subst e1 e3
  exact .inr ⟨g,cc,cur,rfl,hb,hg,Nat.zero_le _,h2,h3,by simp⟩
theorem cells_abc_new (w:World) (a b c:Value) (t:TypeId):∀ n u,([a,b,c]:List Value)[n]? = some u→(w.alloc (.cells #[a,b,c] t)).cell? ((⟨w.heap.size,0,none⟩:Addr).add n)=some u:=by
 intro n u hj
 match n,hj with
 | 0,hj|1,hj|2,hj=>simp at hj;subst hj;simp [Addr.add]
theorem Chg.alloc {X:Nat→Prop} {w w1:World} (h:Chg X w w1) (o:Obj):Chg X w (w1.alloc o):=h.trans (Chg.of (X:=X) ((Below.refl _ _).alloc (Nat.le_refl _) o)) (fun k hk => .inl hk)
theorem Chg.refl {X:Nat→Prop} {w:World}:Chg X w w:=Chg.of (Below.refl _ _)
theorem tlen_any (s n cc:Nat) (C:Option Addr) (xs:List Value) (w:World) (h:Qu w s C n cc xs):Calls Tryz.prog 224 #[.pointer (some ⟨s,0,none⟩)] w fun e w'=>e = .returned (.int .i64 n)∧Below w.heap.size w w':=by
 have c0:=h.c0
 clear h
 go_enter Tryz.func224,Tryz.ntmps224
 go_wp2
 go_ret
 exact ⟨rfl,q9o⟩
theorem assert_entry (W:World) (v:Value):(Instr.typeAssert (.iface 165 v) 20 165 true).run Tryz.prog W = .ok (.tuple #[v, .bool true]) W:=by kernel_rfl
set_option maxHeartbeats 8000000 in
theorem tpush_any (s n cc:Nat) (C:Option Addr) (xs:List Value) (k t i:Int) (w:World) (h:Qu w s C n cc xs) (hn:n≤1000000):
  Calls Tryz.prog 227 #[.pointer (some ⟨s,0,none⟩), .iface 165 (.agg #[.int .u64 k, .int .u64 t, .int .i64 i])] w fun e w'=>e = .returned (.tuple #[])∧∃ C' cc',Qu w' s C' (n+1) cc' (xs ++ [.int .u64 k, .int .u64 t, .int .i64 i])∧Chg (fun j=>j=s∨gP C j) w w'∧∀ j,gP C' j→gP C j∨w.heap.size≤j:=by
 obtain ⟨i0,hi,hz0,hz1,hz2⟩:=info_parts (show (Tryz.prog.info? 165).map (fun i=>(i.zero,i.size,i.bytes))=some (some (.agg #[.int .u64 0, .int .u64 0, .int .i64 0]),3,24) by kernel_rfl)
 have H:=Lib.hid h
 have c0:=h.c0
 have fz:=h.fz
 have hs:=h.lt
 have has:=assert_entry
 clear h
 go_enter Tryz.func227,Tryz.ntmps227
 go_wp2_with fail
 have HS:(fun w'=>w'.cell? ⟨s,0,none⟩=some (.slice C n cc)∧w'.cell? ⟨w.heap.size,0,none⟩=some (.int .u64 k)∧w'.cell? ⟨w.heap.size,1,none⟩=some (.int .u64 t)∧w'.cell? ⟨w.heap.size,2,none⟩=some (.int .i64 i)) (w.alloc (.cells #[.int .u64 k, .int .u64 t, .int .i64 i] 165)).drew:=⟨by go_simp,by go_simp,by go_simp,by go_simp⟩
 refine wp_region_early (fun w'=>w'.cell? ⟨s,0,none⟩=some (.slice C n cc)∧w'.cell? ⟨w.heap.size,0,none⟩=some (.int .u64 k)∧w'.cell? ⟨w.heap.size,1,none⟩=some (.int .u64 t)∧w'.cell? ⟨w.heap.size,2,none⟩=some (.int .i64 i)) (fun j=>decide (j < 8)) (by kernel_rfl) HS (fun HS=>?_)
 (refine q9t (i:=0) rfl HS ?_;(try simp only [Act.put,q9x,q9y,q9z]))
 (refine q9t (i:=1) rfl HS ?_;(try simp only [Act.put,q9x,q9y,q9z]))
 (refine q9t (i:=2) rfl HS ?_;(try simp only [Act.put,q9x,q9y,q9z]))
 (refine q9t (i:=3) rfl HS ?_;(try simp only [Act.put,q9x,q9y,q9z]))
 (refine q9t (i:=4) rfl HS ?_;(try simp only [Act.put,q9x,q9y,q9z]))
 (refine q9t (i:=5) rfl HS ?_;(try simp only [Act.put,q9x,q9y,q9z]))
 refine wpAnyE_one (i:=6) rfl (by kernel_rfl) ?_
 go_wp2_with fail
 have HS:(fun w'=>w'.cell? ⟨s,0,none⟩=some (.slice C n cc)∧w'.cell? ⟨w.heap.size,0,none⟩=some (.int .u64 k)∧w'.cell? ⟨w.heap.size,1,none⟩=some (.int .u64 t)∧w'.cell? ⟨w.heap.size,2,none⟩=some (.int .i64 i)) ((w.alloc (.cells #[.int .u64 k, .int .u64 t, .int .i64 i] 165)).drew.alloc (.cells #[.int .u64 k, .int .u64 t, .int .i64 i] 165)):=⟨by go_simp,by go_simp,by go_simp,by go_simp⟩
 first|refine ⟨fun _=>HS,?_⟩|skip
 refine wpAnyE_one (i:=7) rfl (by kernel_rfl) ?_
 have hb2:Below w.heap.size w ((w.alloc (.cells #[.int .u64 k, .int .u64 t, .int .i64 i] 165)).drew.alloc (.cells #[.int .u64 k, .int .u64 t, .int .i64 i] 165)):=(((Below.refl w.heap.size w).alloc (Nat.le_refl _) _).drew).alloc (by simp) _
 refine wpList_append_own_at _ rfl _ _ 166 rfl (s+1) 165 i0 (.agg #[.int .u64 0, .int .u64 0, .int .i64 0]) 3 24 Tryz.underlying166 hi hz0 hz1 hz2 rfl (by decide) (.slice C n cc) n _ (by rfl) (own_keep H.out.own hb2) ⟨w.heap.size+1,0,none⟩ 1 1 [.int .u64 k, .int .u64 t, .int .i64 i] (by rfl) (by rfl) (by
  have h9:=cells_abc_new (w.alloc (.cells #[.int .u64 k, .int .u64 t, .int .i64 i] 165)).drew (.int .u64 k) (.int .u64 t) (.int .i64 i) 165
  have e9:(w.alloc (.cells #[.int .u64 k, .int .u64 t, .int .i64 i] 165)).drew.heap.size=w.heap.size+1:=by simp
  rw [e9] at h9
  exact h9) (by intro u hu;simp at hu;rcases hu with rfl|rfl|rfl <;> rfl) (by unfold maxLen;omega) (by omega) (by simp;omega) ?_
 intro v3 w3 hown3 hgrow3 _ hat3
 obtain ⟨A3,k3,rfl⟩:=own_formN hown3
 have hc3:Chg (fun j=>j=s∨gP C j) w w3:=(Chg.of (X:=fun j=>j=s∨gP C j) hb2).trans (Chg.ofGrown (X:=gP C) hgrow3 (fun k hk=>by rw [gOf_own] at hk;exact hk)) (fun k hk => .inl (.inr hk))
 have hA3:∀ j,gP A3 j→gP C j∨w.heap.size≤j:=fun j hj=>by
  rw [gOf_own,gOf_own] at hat3
  rcases hat3 with e|e
  ·exact .inl (e.symm.trans hj)
  ·refine .inr ?_
   unfold gP at hj
   rw [e] at hj
   injection hj with hj
   simp at hj
   omega
 have hsr:¬ gP C s:=fun hk=>by have:=H.out.rowlt s hk;omega
 have hnr:¬ gP C w.heap.size:=fun hk=>by have:=H.out.rowlt _ hk;omega
 have q3:∀ p:Addr,p.block < w.heap.size+2→¬ gP C p.block→w3.cell? p=((w.alloc (.cells #[.int .u64 k, .int .u64 t, .int .i64 i] 165)).drew.alloc (.cells #[.int .u64 k, .int .u64 t, .int .i64 i] 165)).cell? p:=fun p hp hn=>hgrow3.cell_far p (by simp;omega) (fun e=>by rw [gOf_own] at e;exact hn e.symm)
 have c3:w3.cell? ⟨s,0,none⟩=some (.slice C n cc):=(q3 ⟨s,0,none⟩ (by show s < _;omega) hsr).trans (by go_simp)
 have z3:w3.frozen? ⟨s,0,none⟩=false:=(hgrow3.frozen_far ⟨s,0,none⟩ (by simp;omega) (fun e=>by rw [gOf_own] at e;exact hsr e.symm)).trans (by go_simp)
 have HS3:(fun w'=>w'.cell? ⟨s,0,none⟩=some (.slice C n cc)∧w'.cell? ⟨w.heap.size,0,none⟩=some (.int .u64 k)∧w'.cell? ⟨w.heap.size,1,none⟩=some (.int .u64 t)∧w'.cell? ⟨w.heap.size,2,none⟩=some (.int .i64 i)) w3:=⟨c3,(q3 ⟨w.heap.size,0,none⟩ (by show w.heap.size < _;omega) hnr).trans (by go_simp),(q3 ⟨w.heap.size,1,none⟩ (by show w.heap.size < _;omega) hnr).trans (by go_simp),(q3 ⟨w.heap.size,2,none⟩ (by show w.heap.size < _;omega) hnr).trans (by go_simp)⟩
 refine ⟨fun _=>HS3,?_⟩
 have HE:=Lib.hid (And.intro (own_set hown3 (p:=⟨s,0,none⟩) (by show s < s+1;omega) (.slice A3 (n+1) k3)) (And.intro (hc3.set (p:=⟨s,0,none⟩) (.inl (.inl rfl)) (.slice A3 (n+1) k3)) hA3))
 clear hown3 hgrow3 q3 HS HS3 hat3 hc3 hA3 hb2
 refine wpAnyE_rest (k:=8) rfl (by kernel_rfl) (fun j hj=>by simp;omega) ?_
 simp only [List.drop_succ_cons,List.drop_zero]
 go_wp2_with fail
 refine bodyPost_end (v := .tuple #[]) (by first|rfl|kernel_rfl) rfl ?_
 exact ⟨rfl,A3,k3,⟨by go_simp,by go_simp,HE.out.1⟩,HE.out.2.1,HE.out.2.2⟩
set_option maxHeartbeats 8000000 in
theorem tpop_one (s cc:Nat) (C:Option Addr) (k t i:Int) (w:World) (h:Qu w s C 1 cc [.int .u64 k, .int .u64 t, .int .i64 i]):
  Calls Tryz.prog 226 #[.pointer (some ⟨s,0,none⟩)] w fun e w'=>e = .returned (.iface 165 (.agg #[.int .u64 k, .int .u64 t, .int .i64 i]))∧Qu w' s C 0 cc []∧Chg (fun j=>j=s) w w':=by
 have H:=Lib.hid h
 have c0:=h.c0
 have fz:=h.fz
 have hs:=h.lt
 obtain ⟨g,cap,hv,hlo,hlt⟩:=h.own.form (by omega)
 have hC:C=some ⟨g,0,none⟩:=by injection hv
 subst hC
 have d0:=h.own.cells (g:=g) rfl 0 _ rfl
 have d1:=h.own.cells (g:=g) rfl 1 _ rfl
 have d2:=h.own.cells (g:=g) rfl 2 _ rfl
 rw [Addr.add_lit] at d0 d1 d2
 clear h hv
 simp only [Nat.zero_add,Nat.add_zero] at d0 d1 d2
 go_enter Tryz.func226,Tryz.ntmps226
 go_wp2_with fail
 go_ret
 exact ⟨rfl,⟨by go_simp,by go_simp,(own_set (own_cut H.out.own (by decide)) (p:=⟨s,0,none⟩) (by show s < s+1;omega) _).alloc _⟩,((Chg.refl (X:=fun j=>j=s)).set (p:=⟨s,0,none⟩) (.inl rfl) _).alloc _⟩
set_option maxHeartbeats 16000000 in
theorem tswap_one (s cc:Nat) (C:Option Addr) (k t i:Int) (w:World) (h:Qu w s C 1 cc [.int .u64 k, .int .u64 t, .int .i64 i]):
  Calls Tryz.prog 228 #[.pointer (some ⟨s,0,none⟩), .int .i64 0, .int .i64 0] w fun e w'=>e = .returned (.tuple #[])∧Qu w' s C 1 cc [.int .u64 k, .int .u64 t, .int .i64 i]∧Chg (gP C) w w':=by
 have H:=Lib.hid h
 have c0:=h.c0
 have fz:=h.fz
 have hs:=h.lt
 obtain ⟨g,cap,hv,hlo,hlt⟩:=h.own.form (by omega)
 have hC:C=some ⟨g,0,none⟩:=by injection hv
 subst hC
 have d0:=h.own.cells (g:=g) rfl 0 _ rfl
 have d1:=h.own.cells (g:=g) rfl 1 _ rfl
 have d2:=h.own.cells (g:=g) rfl 2 _ rfl
 rw [Addr.add_lit] at d0 d1 d2
 have f0:=h.own.frozenAt 0
 have f1:=h.own.frozenAt 1
 have f2:=h.own.frozenAt 2
 clear h hv
 simp only [Nat.zero_add,Nat.add_zero] at d0 d1 d2
 go_enter Tryz.func228,Tryz.ntmps228
 have HS:(fun w'=>w'.cell? ⟨s,0,none⟩=some (.slice (some ⟨g,0,none⟩) 1 cc)∧w'.cell? ⟨g,0,none⟩=some (.int .u64 k)∧w'.cell? ⟨g,1,none⟩=some (.int .u64 t)∧w'.cell? ⟨g,2,none⟩=some (.int .i64 i)) w.drew:=⟨by go_simp,by go_simp,by go_simp,by go_simp⟩
 refine wp_region_early (fun w'=>w'.cell? ⟨s,0,none⟩=some (.slice (some ⟨g,0,none⟩) 1 cc)∧w'.cell? ⟨g,0,none⟩=some (.int .u64 k)∧w'.cell? ⟨g,1,none⟩=some (.int .u64 t)∧w'.cell? ⟨g,2,none⟩=some (.int .i64 i)) (fun _=>true) (by kernel_rfl) HS (fun HS=>?_)
 (refine q9t (i:=0) rfl HS ?_;(try simp only [Act.put,q9x,q9y,q9z]))
 (refine q9t (i:=1) rfl HS ?_;(try simp only [Act.put,q9x,q9y,q9z]))
 (refine q9t (i:=2) rfl HS ?_;(try simp only [Act.put,q9x,q9y,q9z]))
 (refine q9t (i:=3) rfl HS ?_;(try simp only [Act.put,q9x,q9y,q9z]))
 (refine q9t (i:=4) rfl HS ?_;(try simp only [Act.put,q9x,q9y,q9z]))
 (refine q9t (i:=5) rfl HS ?_;(try simp only [Act.put,q9x,q9y,q9z]))
 (refine q9t (i:=6) rfl HS ?_;(try simp only [Act.put,q9x,q9y,q9z]))
 (refine q9t (i:=7) rfl HS ?_;(try simp only [Act.put,q9x,q9y,q9z]))
 (refine q9t (i:=8) rfl HS ?_;(try simp only [Act.put,q9x,q9y,q9z]))
 (refine q9t (i:=9) rfl HS ?_;(try simp only [Act.put,q9x,q9y,q9z]))
 (refine q9t (i:=10) rfl HS ?_;(try simp only [Act.put,q9x,q9y,q9z]))
 (refine q9t (i:=11) rfl HS ?_;(try simp only [Act.put,q9x,q9y,q9z]))
 (refine q9t (i:=12) rfl HS ?_;(try simp only [Act.put,q9x,q9y,q9z]))
 (refine q9t (i:=13) rfl HS ?_;(try simp only [Act.put,q9x,q9y,q9z]))
 (refine q9t (i:=14) rfl HS ?_;(try simp only [Act.put,q9x,q9y,q9z]))
 (refine q9t (i:=15) rfl HS ?_;(try simp only [Act.put,q9x,q9y,q9z]))
 (refine q9t (i:=16) rfl HS ?_;(try simp only [Act.put,q9x,q9y,q9z]))
 (refine q9t (i:=17) rfl HS ?_;(try simp only [Act.put,q9x,q9y,q9z]))
 (refine q9t (i:=18) rfl HS ?_;(try simp only [Act.put,q9x,q9y,q9z]))
 (refine q9t (i:=19) rfl HS ?_;(try simp only [Act.put,q9x,q9y,q9z]))
 (refine q9t (i:=20) rfl HS ?_;(try simp only [Act.put,q9x,q9y,q9z]))
 (refine q9t (i:=21) rfl HS ?_;(try simp only [Act.put,q9x,q9y,q9z]))
 (refine q9t (i:=22) rfl HS ?_;(try simp only [Act.put,q9x,q9y,q9z]))
 (refine q9t (i:=23) rfl HS ?_;(try simp only [Act.put,q9x,q9y,q9z]))
 (refine q9t (i:=24) rfl HS ?_;(try simp only [Act.put,q9x,q9y,q9z]))
 refine wpAnyE_one (i:=25) rfl (by kernel_rfl) ?_
 go_wp2_with fail
 have HS:(fun w'=>w'.cell? ⟨s,0,none⟩=some (.slice (some ⟨g,0,none⟩) 1 cc)∧w'.cell? ⟨g,0,none⟩=some (.int .u64 k)∧w'.cell? ⟨g,1,none⟩=some (.int .u64 t)∧w'.cell? ⟨g,2,none⟩=some (.int .i64 i)) ((((w.drew).setCell ⟨g,0,none⟩ (.int .u64 k)).setCell ⟨g,1,none⟩ (.int .u64 t)).setCell ⟨g,2,none⟩ (.int .i64 i)):=⟨by go_simp,by go_simp,by go_simp,by go_simp⟩
 first|refine ⟨fun _=>HS,?_⟩|skip
 refine wpAnyE_one (i:=26) rfl (by kernel_rfl) ?_
 go_wp2_with fail
 first|refine ⟨fun _=>HS,?_⟩|skip
 refine wpAnyE_one (i:=27) rfl (by kernel_rfl) ?_
 go_wp2_with fail
 have o1:=((H.out.own.stored 0 (.int .u64 k)).1.stored 1 (.int .u64 t)).1.stored 2 (.int .i64 i)
 have o2:=((o1.1.stored 0 (.int .u64 k)).1.stored 1 (.int .u64 t)).1.stored 2 (.int .i64 i)
 have x0:=o2.1.cells (g:=g) rfl 0 _ rfl
 have x1:=o2.1.cells (g:=g) rfl 1 _ rfl
 have x2:=o2.1.cells (g:=g) rfl 2 _ rfl
 rw [Addr.add_lit] at x0 x1 x2
 simp only [Nat.zero_add,Nat.add_zero] at x0 x1 x2
 have hsg:s≠g:=by omega
 have HS2:=Lib.hid o2.1
 clear o1 o2 HS
 have x9:((((((w.setCell ⟨g,0,none⟩ (.int .u64 k)).setCell ⟨g,1,none⟩ (.int .u64 t)).setCell ⟨g,2,none⟩ (.int .i64 i)).setCell ⟨g,0,none⟩ (.int .u64 k)).setCell ⟨g,1,none⟩ (.int .u64 t)).setCell ⟨g,2,none⟩ (.int .i64 i)).cell? ⟨s,0,none⟩=some (.slice (some ⟨g,0,none⟩) 1 cc):=by go_simp
 have HC:=Lib.hid ((((((Chg.refl (X:=gP (some ⟨g,0,none⟩)) (w:=w)).set (p:=⟨g,0,none⟩) (.inl rfl) (.int .u64 k)).set (p:=⟨g,1,none⟩) (.inl rfl) (.int .u64 t)).set (p:=⟨g,2,none⟩) (.inl rfl) (.int .i64 i)).set (p:=⟨g,0,none⟩) (.inl rfl) (.int .u64 k)).set (p:=⟨g,1,none⟩) (.inl rfl) (.int .u64 t) |>.set (p:=⟨g,2,none⟩) (.inl rfl) (.int .i64 i))
 have hfz:((((((w.setCell ⟨g,0,none⟩ (.int .u64 k)).setCell ⟨g,1,none⟩ (.int .u64 t)).setCell ⟨g,2,none⟩ (.int .i64 i)).setCell ⟨g,0,none⟩ (.int .u64 k)).setCell ⟨g,1,none⟩ (.int .u64 t)).setCell ⟨g,2,none⟩ (.int .i64 i)).frozen? ⟨s,0,none⟩=false:=by go_simp
 generalize ((((((w.setCell ⟨g,0,none⟩ (.int .u64 k)).setCell ⟨g,1,none⟩ (.int .u64 t)).setCell ⟨g,2,none⟩ (.int .i64 i)).setCell ⟨g,0,none⟩ (.int .u64 k)).setCell ⟨g,1,none⟩ (.int .u64 t)).setCell ⟨g,2,none⟩ (.int .i64 i))=V at x0 x1 x2 x9 HS2 HC hfz ⊢
 refine ⟨fun _=>⟨x9,x0,x1,x2⟩,?_⟩
 refine ⟨by kernel_rfl,?_⟩
 refine bodyPost_end (v := .tuple #[]) (by first|rfl|kernel_rfl) rfl ?_
 refine ⟨rfl,⟨x9,hfz,?_⟩,?_⟩
 ·exact own_keep HS2.out (Below.drew (Below.refl _ _))
 ·exact HC.out.trans (Chg.of (X:=gP (some ⟨g,0,none⟩)) (Below.drew (Below.refl _ _))) (fun k hk => .inl hk)
end Go.Proofs.YthlijfligikciaaGreat
