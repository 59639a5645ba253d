/- A part of one proof: TpQ TpB To TpC TpI. No condition. -/
import Derived.Test.YthlijfligikciaaGreatY05
import Derived.Deep.AppendLies
import Derived.Test.YthlijfligikciaaGreatY03
import Derived.Test.YthlijfligikciaaGreatY01
namespace Go.Proofs.YthlijfligikciaaGreat
set_option linter.unusedSimpArgs false
set_option linter.unusedVariables false
set_option maxRecDepth 2000
theorem pair_get {L:List Int} (h:L.Pairwise (· < ·)) {i j:Nat} (hij:i < j) (hj:j < L.length):L.getD i 0 < L.getD j 0:=by
 have:=List.pairwise_iff_getElem.1 h i j (by omega) hj hij
 simpa [List.getD,List.getElem?_eq_getElem hj,List.getElem?_eq_getElem (show i < L.length by omega)] using this
theorem pair_le {L:List Int} (h:L.Pairwise (· < ·)) {i j:Nat} (hij:i≤j) (hj:j < L.length):L.getD i 0≤L.getD j 0:=by
 rcases Nat.lt_or_eq_of_le hij with h1|rfl
 ·exact Int.le_of_lt (pair_get h h1 hj)
 ·exact Int.le_refl _
theorem mem_get {L:List Int} {e:Int} (h:e ∈ L):∃ j,j < L.length∧L.getD j 0=e:=by
 obtain ⟨j,hj,rfl⟩:=List.mem_iff_getElem.1 h
 exact ⟨j,hj,by simp [List.getD,List.getElem?_eq_getElem hj]⟩
theorem between {L:List Int} (h:L.Pairwise (· < ·)) {e x:Int} {i:Nat} (he:e ∈ L) (hi:i+1 < L.length) (h0:L.getD i 0≤x) (h1:x < L.getD (i+1) 0):e≤x↔e≤L.getD i 0:=by
 obtain ⟨j,hj,rfl⟩:=mem_get he
 constructor
 ·intro hle
  rcases Nat.lt_or_ge i j with hij|hij
  ·have:=pair_le h (show i+1≤j by omega) hj
   omega
  ·exact pair_le h hij (by omega)
 ·intro hle
  omega
def OkL (l:List Rl):Prop:=∀ r ∈ l,rightR r=true
theorem mem_ptsL {f1 f2:Bx→Int} {l:List Rl} {r:Rl} {b:Bx} (hr:r ∈ l) (hb:b ∈ r.boxes):f1 b ∈ edgesL (ptsL f1 f2 l)∧f2 b+1 ∈ edgesL (ptsL f1 f2 l):=by
 rw [edges_mem,edges_mem]
 unfold ptsL ptsB
 refine ⟨?_,?_⟩
 ·exact List.mem_flatMap.2 ⟨r,hr,List.mem_flatMap.2 ⟨b,hb,by simp⟩⟩
 ·exact List.mem_flatMap.2 ⟨r,hr,List.mem_flatMap.2 ⟨b,hb,by simp⟩⟩
def xsL (l:List Rl):List Int:=edgesL (ptsL (fun b=>b.a) (fun b=>b.c) l)
def ysL (l:List Rl):List Int:=edgesL (ptsL (fun b=>b.b) (fun b=>b.d) l)
theorem hasX_iff {b:Bx} {x y:Int}:hasX b x y=true↔rightX b=true∧b.a≤x∧x≤b.c∧b.b≤y∧y≤b.d:=by simp [hasX,hasB,rightX]
theorem hasL_congr {l:List Bx} {x y x' y':Int} (h:∀ b ∈ l,hasX b x y=hasX b x' y'):hasL l x y=hasL l x' y':=by
 unfold hasL
 induction l with
 | nil=>rfl
 | cons b l ih=>
  rw [List.any_cons,List.any_cons,h b (by simp),ih fun c hc=>h c (by simp [hc])]
theorem zoom_cellX {l:List Rl} {x y:Int} {i:Nat} (hi:i+1 < (xsL l).length) (h0:(xsL l).getD i 0≤x) (h1:x < (xsL l).getD (i+1) 0):zoomF l x y=zoomF l ((xsL l).getD i 0) y:=by
 refine zoom_same fun r hr=>hasL_congr fun b hb=>?_
 obtain ⟨m1,m2⟩:=mem_ptsL (f1:=fun b=>b.a) (f2:=fun b=>b.c) hr hb
 have e1:b.a≤x↔b.a≤(xsL l).getD i 0:=between (edges_lt _) m1 hi h0 h1
 have e2:b.c+1≤x↔b.c+1≤(xsL l).getD i 0:=between (edges_lt _) m2 hi h0 h1
 rw [Bool.eq_iff_iff,hasX_iff,hasX_iff]
 constructor
 ·rintro ⟨a,b1,c,d,e⟩
  have:=e1.1 b1
  exact ⟨a,this,by omega,d,e⟩
 ·rintro ⟨a,b1,c,d,e⟩
  exact ⟨a,by omega,Classical.byContradiction fun h=>by have:=e2.1 (by omega);omega,d,e⟩
theorem zoom_cellY {l:List Rl} {x y:Int} {i:Nat} (hi:i+1 < (ysL l).length) (h0:(ysL l).getD i 0≤y) (h1:y < (ysL l).getD (i+1) 0):zoomF l x y=zoomF l x ((ysL l).getD i 0):=by
 refine zoom_same fun r hr=>hasL_congr fun b hb=>?_
 obtain ⟨m1,m2⟩:=mem_ptsL (f1:=fun b=>b.b) (f2:=fun b=>b.d) hr hb
 have e1:b.b≤y↔b.b≤(ysL l).getD i 0:=between (edges_lt _) m1 hi h0 h1
 have e2:b.d+1≤y↔b.d+1≤(ysL l).getD i 0:=between (edges_lt _) m2 hi h0 h1
 rw [Bool.eq_iff_iff,hasX_iff,hasX_iff]
 constructor
 ·rintro ⟨a,b1,c,d,e⟩
  have:=e1.1 d
  exact ⟨a,b1,c,this,by omega⟩
 ·rintro ⟨a,b1,c,d,e⟩
  exact ⟨a,b1,c,by omega,Classical.byContradiction fun h=>by have:=e2.1 (by omega);omega⟩
theorem zoom_inX {l:List Rl} (hl:OkL l) {x y:Int} (h:zoomF l x y≠0):∃ i,i+1 < (xsL l).length∧(xsL l).getD i 0≤x∧x < (xsL l).getD (i+1) 0:=by
 have hex:∃ r ∈ l,hasL r.boxes x y=true:=Classical.byContradiction fun h9=>h (zoom_none (fun r hr=>rightR_zoom (hl r hr)) fun r hr=>Bool.eq_false_iff.2 fun e=>h9 ⟨r,hr,e⟩)
 obtain ⟨r,hr,hh⟩:=hex
 obtain ⟨b,hb,hx⟩:=List.any_eq_true.1 hh
 obtain ⟨_,a1,a2,_,_⟩:=hasX_iff.1 hx
 obtain ⟨m1,m2⟩:=mem_ptsL (f1:=fun b=>b.a) (f2:=fun b=>b.c) hr hb
 exact cell_of (edges_lt _) (mem_get m1) (mem_get m2) a1 (by omega)
where
 cell_of {L:List Int} (hp:L.Pairwise (· < ·)) {u v x:Int} (h1:∃ j,j < L.length∧L.getD j 0=u) (h2:∃ j,j < L.length∧L.getD j 0=v) (hu:u≤x) (hv:x < v):∃ i,i+1 < L.length∧L.getD i 0≤x∧x < L.getD (i+1) 0:=by
  obtain ⟨j,hj,rfl⟩:=h1
  obtain ⟨k,hk,rfl⟩:=h2
  have hjk:j < k:=Classical.byContradiction fun h=>by have:=pair_le hp (show k≤j by omega) hj;omega
  clear hp
  induction k with
  | zero=>omega
  | succ k ih=>
   by_cases hc:L.getD k 0≤x
   ·exact ⟨k,hk,hc,hv⟩
   ·exact ih (by omega) (by omega) (by
     rcases Nat.lt_or_eq_of_le (Nat.le_of_lt_succ hjk) with h|h
     ·exact h
     ·subst h;exact absurd hu hc)
theorem zoom_inY {l:List Rl} (hl:OkL l) {x y:Int} (h:zoomF l x y≠0):∃ i,i+1 < (ysL l).length∧(ysL l).getD i 0≤y∧y < (ysL l).getD (i+1) 0:=by
 have hex:∃ r ∈ l,hasL r.boxes x y=true:=Classical.byContradiction fun h9=>h (zoom_none (fun r hr=>rightR_zoom (hl r hr)) fun r hr=>Bool.eq_false_iff.2 fun e=>h9 ⟨r,hr,e⟩)
 obtain ⟨r,hr,hh⟩:=hex
 obtain ⟨b,hb,hx⟩:=List.any_eq_true.1 hh
 obtain ⟨_,_,_,a1,a2⟩:=hasX_iff.1 hx
 obtain ⟨m1,m2⟩:=mem_ptsL (f1:=fun b=>b.b) (f2:=fun b=>b.d) hr hb
 exact zoom_inX.cell_of (edges_lt _) (mem_get m1) (mem_get m2) a1 (by omega)
def RowOk (l:List Rl) (y:Int) (L:List Sp) (hi:Int):Prop:=
 (∀ s ∈ L,s.fr≤s.to∧s.to < hi∧s.zoom≠0∧∀ x,s.fr≤x→x≤s.to→zoomF l x y=s.zoom)
theorem rowN_ok {l:List Rl} {y:Int}:∀ i,i < (xsL l).length∨i=0→RowOk l y (rowN l (xsL l) y i) ((xsL l).getD i 0)∧∀ x,(xsL l).getD 0 0≤x→x < (xsL l).getD i 0→zoomF l x y≠0→∃ s ∈ rowN l (xsL l) y i,s.fr≤x∧x≤s.to
 | 0,_=>⟨fun s hs=>(by cases hs),fun x h0 h1=>by omega⟩
 | i+1,hi=>by
  have hi':i+1 < (xsL l).length:=hi.resolve_right (by omega)
  obtain ⟨h1,h2⟩:=rowN_ok (l:=l) (y:=y) i (.inl (by omega))
  have hlt:=pair_get (edges_lt (ptsL (fun b=>b.a) (fun b=>b.c) l)) (Nat.lt_succ_self i) hi'
  have hlt':(xsL l).getD i 0 < (xsL l).getD (i+1) 0:=hlt
  have hcell:=fun x=>@zoom_cellX l x y i hi'
  have hst:rowN l (xsL l) y (i+1)=stepRow l (xsL l) y (rowN l (xsL l) y i) i:=rfl
  obtain ⟨a,ha⟩:∃ a,(xsL l).getD i 0=a:=⟨_,rfl⟩
  obtain ⟨c,hc⟩:∃ c,(xsL l).getD (i+1) 0=c:=⟨_,rfl⟩
  obtain ⟨M,hM⟩:∃ M,rowN l (xsL l) y i=M:=⟨_,rfl⟩
  rw [hst]
  have hz:=fun (out:List Sp)=>@row_zero l (xsL l) y out i
  have hjn:=fun (out:List Sp) (s:Sp)=>@row_join l (xsL l) y out s i
  have hmr:=fun (out:List Sp) (s:Sp)=>@row_more l (xsL l) y out s i
  have hnl:=@row_nil l (xsL l) y i
  rw [hM] at h1 h2 ⊢
  rw [ha] at h1 h2 hlt' hcell hz hjn hmr hnl
  rw [hc] at hlt' hcell hjn hmr hnl ⊢
  obtain ⟨z,hzz⟩:∃ z,zoomF l a y=z:=⟨_,rfl⟩
  rw [hzz] at hcell hz hjn hmr hnl
  have key:z≠0→(RowOk l y (M ++ [⟨a,c - 1,z⟩]) c∧∀ x,(xsL l).getD 0 0≤x→x < c→zoomF l x y≠0→∃ s ∈ M ++ [⟨a,c - 1,z⟩],s.fr≤x∧x≤s.to):=fun hz0=>by
   refine ⟨fun s hs=>?_,fun x hx0 hx1 hxz=>?_⟩
   ·rcases List.mem_append.1 hs with hs|hs
    ·obtain ⟨q1,q2,q3,q4⟩:=h1 s hs
     exact ⟨q1,by omega,q3,q4⟩
    ·obtain rfl:=List.mem_singleton.1 hs
     exact ⟨by simp only;omega,by simp only;omega,hz0,fun x u v=>hcell x u (by simp only at v;omega)⟩
   ·rcases Int.lt_or_le x a with hxa|hxa
    ·obtain ⟨s,hs,q⟩:=h2 x hx0 hxa hxz
     exact ⟨s,List.mem_append_left _ hs,q⟩
    ·exact ⟨⟨a,c - 1,z⟩,by simp,hxa,by simp only;omega⟩
  by_cases hz0:z=0
  ·rw [hz _ hz0]
   refine ⟨fun s hs=>?_,fun x hx0 hx1 hxz=>?_⟩
   ·obtain ⟨q1,q2,q3,q4⟩:=h1 s hs
    exact ⟨q1,by omega,q3,q4⟩
   ·rcases Int.lt_or_le x a with hxa|hxa
    ·exact h2 x hx0 hxa hxz
    ·exact absurd ((hcell x hxa hx1).trans hz0) hxz
  ·rcases List.eq_nil_or_concat M with rfl|⟨M',s,hMs⟩
   ·rw [hnl hz0]
    exact key hz0
   ·have hMs':M=M' ++ [s]:=by simpa using hMs
    subst hMs'
    by_cases hj:s.zoom=z∧s.to+1=a
    ·rw [hjn M' s hz0 hj.1 hj.2]
     obtain ⟨q1,q2,q3,q4⟩:=h1 s (by simp)
     refine ⟨fun t ht=>?_,fun x hx0 hx1 hxz=>?_⟩
     ·rcases List.mem_append.1 ht with ht|ht
      ·obtain ⟨p1,p2,p3,p4⟩:=h1 t (by simp [ht])
       exact ⟨p1,by omega,p3,p4⟩
      ·obtain rfl:=List.mem_singleton.1 ht
       refine ⟨by simp only;omega,by simp only;omega,q3,fun x u v=>?_⟩
       simp only at u v ⊢
       rcases Int.lt_or_le s.to x with hx|hx
       ·rw [hcell x (by omega) (by omega),hj.1]
       ·exact q4 x u hx
     ·rcases Int.lt_or_le x a with hxa|hxa
      ·obtain ⟨t,ht,p1,p2⟩:=h2 x hx0 hxa hxz
       rcases List.mem_append.1 ht with ht|ht
       ·exact ⟨t,by simp [ht],p1,p2⟩
       ·obtain rfl:=List.mem_singleton.1 ht
        exact ⟨⟨t.fr,c - 1,t.zoom⟩,by simp,p1,by simp only;omega⟩
      ·exact ⟨⟨s.fr,c - 1,s.zoom⟩,by simp,by simp only;omega,by simp only;omega⟩
    ·rw [hmr M' s hz0 hj]
     exact key hz0
theorem rowP_ok {l:List Rl} (hl:OkL l) {y:Int}:(∀ s ∈ rowP l (xsL l) y,s.fr≤s.to∧s.zoom≠0∧∀ x,s.fr≤x→x≤s.to→zoomF l x y=s.zoom)∧∀ x,zoomF l x y≠0→∃ s ∈ rowP l (xsL l) y,s.fr≤x∧x≤s.to:=by
 by_cases hn:(xsL l).length=0
 ·have e:rowP l (xsL l) y=[]:=by unfold rowP;rw [hn];rfl
  rw [e]
  refine ⟨fun s hs=>(by cases hs),fun x hx=>?_⟩
  obtain ⟨i,hi,_⟩:=zoom_inX hl hx
  omega
 ·obtain ⟨h1,h2⟩:=rowN_ok (l:=l) (y:=y) ((xsL l).length - 1) (.inl (by omega))
  refine ⟨fun s hs=>?_,fun x hx=>?_⟩
  ·obtain ⟨q1,_,q3,q4⟩:=h1 s hs
   exact ⟨q1,q3,q4⟩
  ·obtain ⟨i,hi,u,v⟩:=zoom_inX hl hx
   have p1:=pair_le (edges_lt (ptsL (fun b=>b.a) (fun b=>b.c) l)) (Nat.zero_le i) (show i < (xsL l).length by omega)
   have p2:=pair_le (edges_lt (ptsL (fun b=>b.a) (fun b=>b.c) l)) (show i+1≤(xsL l).length - 1 by omega) (show (xsL l).length - 1 < (xsL l).length by omega)
   exact h2 x (Int.le_trans p1 u) (Int.lt_of_lt_of_le v p2) hx
end Go.Proofs.YthlijfligikciaaGreat
namespace Go.Proofs.YthlijfligikciaaGreat
open Go.RowKit
set_option linter.unusedSimpArgs false
set_option linter.unusedVariables false
set_option maxRecDepth 2000
structure Pa where
 bx:Bx
 zoom:Int
def pa0:Pa:=⟨bx0,0⟩
def paV (L:List Pa):List Value:=L.flatMap fun p=>[.int .i64 p.bx.a, .int .i64 p.bx.b, .int .i64 p.bx.c, .int .i64 p.bx.d, .int .i64 p.zoom]
theorem paV_snoc (L:List Pa) (p:Pa):paV (L ++ [p])=paV L ++ [.int .i64 p.bx.a, .int .i64 p.bx.b, .int .i64 p.bx.c, .int .i64 p.bx.d, .int .i64 p.zoom]:=by simp [paV]
def bandP (y0 y1:Int) (L:List Sp):List Pa:=L.map fun s=>⟨⟨s.fr,y0,s.to,y1⟩,s.zoom⟩
def Cov (l:List Rl) (hi:Int) (L:List Pa):Prop:=
 (∀ p ∈ L,p.bx.a≤p.bx.c∧p.bx.b≤p.bx.d∧p.bx.d < hi∧p.zoom≠0∧∀ x y,p.bx.a≤x→x≤p.bx.c→p.bx.b≤y→y≤p.bx.d→zoomF l x y=p.zoom)∧
 ∀ x y,y < hi→zoomF l x y≠0→∃ p ∈ L,p.bx.a≤x∧x≤p.bx.c∧p.bx.b≤y∧y≤p.bx.d
theorem cov_first {l:List Rl} (hl:OkL l):Cov l ((ysL l).getD 0 0) []:=by
 refine ⟨fun p hp=>(by cases hp),fun x y hy hz=>?_⟩
 obtain ⟨i,hi,u,v⟩:=zoom_inY hl hz
 have:=pair_le (edges_lt (ptsL (fun b=>b.b) (fun b=>b.d) l)) (Nat.zero_le i) (show i < (ysL l).length by omega)
 have h2:(ysL l).getD 0 0≤(ysL l).getD i 0:=this
 omega
theorem cov_band {l:List Rl} (hl:OkL l) {L:List Pa} {i k:Nat} (h:Cov l ((ysL l).getD i 0) L) (hik:i < k) (hk:k < (ysL l).length) (hs:∀ j,i≤j→j < k→rowP l (xsL l) ((ysL l).getD j 0)=rowP l (xsL l) ((ysL l).getD i 0)):
  Cov l ((ysL l).getD k 0) (L ++ bandP ((ysL l).getD i 0) ((ysL l).getD k 0 - 1) (rowP l (xsL l) ((ysL l).getD i 0))):=by
 have hlt:(ysL l).getD i 0 < (ysL l).getD k 0:=pair_get (edges_lt (ptsL (fun b=>b.b) (fun b=>b.d) l)) hik hk
 have hcell:∀ y,(ysL l).getD i 0≤y→y < (ysL l).getD k 0→∃ j,i≤j∧j < k∧∀ x,zoomF l x y=zoomF l x ((ysL l).getD j 0):=by
  intro y h0 h1
  obtain ⟨j,hj,u,v⟩:=zoom_inX.cell_of (edges_lt (ptsL (fun b=>b.b) (fun b=>b.d) l)) ⟨i,Nat.lt_trans hik hk,rfl⟩ ⟨k,hk,rfl⟩ h0 h1
  have hj':j+1 < (ysL l).length:=hj
  have u':(ysL l).getD j 0≤y:=u
  have v':y < (ysL l).getD (j+1) 0:=v
  refine ⟨j,?_,?_,fun x=>zoom_cellY hj' u' v'⟩
  ·exact Classical.byContradiction fun hji=>by
    have:(ysL l).getD (j+1) 0≤(ysL l).getD i 0:=pair_le (edges_lt _) (show j+1≤i by omega) (by show i < (ysL l).length;omega)
    omega
  ·exact Classical.byContradiction fun hjk=>by
    have:(ysL l).getD k 0≤(ysL l).getD j 0:=pair_le (edges_lt _) (show k≤j by omega) (by show j < (ysL l).length;omega)
    omega
 refine ⟨fun p hp=>?_,fun x y hy hz=>?_⟩
 ·rcases List.mem_append.1 hp with hp|hp
  ·obtain ⟨q1,q2,q3,q4,q5⟩:=h.1 p hp
   exact ⟨q1,q2,by omega,q4,q5⟩
  ·obtain ⟨s,hs',rfl⟩:=List.mem_map.1 hp
   obtain ⟨q1,q3,_⟩:=(rowP_ok hl).1 s hs'
   refine ⟨q1,by simp only;omega,by simp only;omega,q3,fun x y u v u' v'=>?_⟩
   simp only at u v u' v' ⊢
   obtain ⟨j,hj0,hj1,hj⟩:=hcell y u' (by omega)
   rw [hj x]
   rw [← hs j hj0 hj1] at hs'
   exact ((rowP_ok hl).1 s hs').2.2 x u v
 ·rcases Int.lt_or_le y ((ysL l).getD i 0) with hyi|hyi
  ·obtain ⟨p,hp,q⟩:=h.2 x y hyi hz
   exact ⟨p,List.mem_append_left _ hp,q⟩
  ·obtain ⟨j,hj0,hj1,hj⟩:=hcell y hyi hy
   rw [hj x] at hz
   obtain ⟨s,hs',u,v⟩:=(rowP_ok hl).2 x hz
   rw [hs j hj0 hj1] at hs'
   exact ⟨⟨⟨s.fr,(ysL l).getD i 0,s.to,(ysL l).getD k 0 - 1⟩,s.zoom⟩,List.mem_append_right _ (List.mem_map.2 ⟨s,hs',rfl⟩),u,v,hyi,by simp only;omega⟩
inductive BT (l:List Rl):Nat→Nat→List Pa→Prop where
 | first:BT l 0 0 []
 | band {n i k:Nat} {L:List Pa} (h:BT l n i L) (hik:i < k) (hk:k < (ysL l).length) (hs:∀ j,i≤j→j < k→rowP l (xsL l) ((ysL l).getD j 0)=rowP l (xsL l) ((ysL l).getD i 0)) (hm:k+1 < (ysL l).length→rowP l (xsL l) ((ysL l).getD k 0)≠rowP l (xsL l) ((ysL l).getD i 0)):
  BT l (n+1) k (L ++ bandP ((ysL l).getD i 0) ((ysL l).getD k 0 - 1) (rowP l (xsL l) ((ysL l).getD i 0)))
def BF (l:List Rl) (L:List Pa):Prop:=∃ n i,BT l n i L∧(ysL l).length≤i+1
theorem bt_one {l:List Rl}:∀ (n:Nat) {i i':Nat} {L L':List Pa},BT l n i L→BT l n i' L'→i=i'∧L=L'
 | 0,i,i',L,L',h,h'=>by cases h;cases h';exact ⟨rfl,rfl⟩
 | n+1,i,i',L,L',h,h'=>by
  cases h with
  | band h hik hk hs hm=>
   cases h' with
   | band h' hik' hk' hs' hm'=>
    obtain ⟨rfl,rfl⟩:=bt_one n h h'
    have e:i=i':=by
     rcases Nat.lt_trichotomy i i' with h9|h9|h9
     ·exact absurd (hs' i (Nat.le_of_lt hik) h9) (hm (by omega))
     ·exact h9
     ·exact absurd (hs i' (Nat.le_of_lt hik') h9) (hm' (by omega))
    subst e
    exact ⟨rfl,rfl⟩
theorem bt_less {l:List Rl} {n:Nat} {i:Nat} {L:List Pa} (h:BT l n i L) (hi:(ysL l).length≤i+1):∀ (d:Nat) {i':Nat} {L':List Pa},¬ BT l (n+d+1) i' L'
 | 0,i',L',h'=>by
  cases h' with
  | band h' hik' hk' hs' hm'=>
   obtain ⟨rfl,rfl⟩:=bt_one n h h'
   omega
 | d+1,i',L',h'=>by
  cases h' with
  | band h' hik' hk' hs' hm'=>exact bt_less h hi d h'
theorem bf_one {l:List Rl} {L L':List Pa} (h:BF l L) (h':BF l L'):L=L':=by
 obtain ⟨n,i,h,hi⟩:=h
 obtain ⟨n',i',h',hi'⟩:=h'
 rcases Nat.lt_trichotomy n n' with e|e|e
 ·exact absurd (show BT l (n+(n' - n - 1)+1) i' L' by rw [show n+(n' - n - 1)+1=n' by omega];exact h') (bt_less h hi _)
 ·subst e;exact (bt_one n h h').2
 ·exact absurd (show BT l (n'+(n - n' - 1)+1) i L by rw [show n'+(n - n' - 1)+1=n by omega];exact h) (bt_less h' hi' _)
def CovI (l:List Rl) (i:Nat) (L:List Pa):Prop:=Cov l ((ysL l).getD i 0) L∧∃ n,BT l n i L
theorem covI_first {l:List Rl} (hl:OkL l):CovI l 0 []:=⟨cov_first hl,0, .first⟩
theorem covI_band {l:List Rl} (hl:OkL l) {L:List Pa} {i k:Nat} (h:CovI l i L) (hik:i < k) (hk:k < (ysL l).length) (hs:∀ j,i≤j→j < k→rowP l (xsL l) ((ysL l).getD j 0)=rowP l (xsL l) ((ysL l).getD i 0)) (hm:k+1 < (ysL l).length→rowP l (xsL l) ((ysL l).getD k 0)≠rowP l (xsL l) ((ysL l).getD i 0)):
  CovI l k (L ++ bandP ((ysL l).getD i 0) ((ysL l).getD k 0 - 1) (rowP l (xsL l) ((ysL l).getD i 0))):=by
 obtain ⟨h1,n,h2⟩:=h
 exact ⟨cov_band hl h1 hik hk hs,n+1, .band h2 hik hk hs hm⟩
def CovAll (l:List Rl) (L:List Pa):Prop:=
 ((∀ p ∈ L,p.bx.a≤p.bx.c∧p.bx.b≤p.bx.d∧p.zoom≠0∧∀ x y,p.bx.a≤x→x≤p.bx.c→p.bx.b≤y→y≤p.bx.d→zoomF l x y=p.zoom)∧
 ∀ x y,zoomF l x y≠0→∃ p ∈ L,p.bx.a≤x∧x≤p.bx.c∧p.bx.b≤y∧y≤p.bx.d)∧BF l L
theorem cov_all {l:List Rl} (hl:OkL l) {L:List Pa} {i:Nat} (h:CovI l i L) (hi:(ysL l).length≤i+1) (hi2:i < (ysL l).length∨i=0):CovAll l L:=by
 obtain ⟨h,n,hb⟩:=h
 refine ⟨⟨fun p hp=>?_,fun x y hz=>?_⟩,n,i,hb,hi⟩
 ·obtain ⟨q1,q2,q3,q4,q5⟩:=h.1 p hp
  exact ⟨q1,q2,q4,q5⟩
 ·obtain ⟨j,hj,u,v⟩:=zoom_inY hl hz
  have h9:(ysL l).getD (j+1) 0≤(ysL l).getD i 0:=pair_le (edges_lt _) (show j+1≤i by omega) (by show i < (ysL l).length;omega)
  exact h.2 x y (by omega) hz
end Go.Proofs.YthlijfligikciaaGreat
namespace Go.Proofs.YthlijfligikciaaGreat
open Go.RowKit
set_option linter.unusedSimpArgs false
set_option linter.unusedVariables false
structure RowTo (w:World) (q:Nat) (A:Option Addr) (w':World) (A':Option Addr):Prop where
 os:w'.os=w.os
 tape:w'.tape=w.tape
 output:w'.output=w.output
 size:w.heap.size≤w'.heap.size
 block:∀ k,k < w.heap.size→k≠q→(∀ a,A=some a→a.block≠k)→w'.heap[k]? = w.heap[k]?
 row:∀ a',A'=some a'→(∃ a,A=some a∧a.block=a'.block)∨w.heap.size≤a'.block
theorem RowTo.refl (w:World) (q:Nat) (A:Option Addr):RowTo w q A w A:=⟨rfl,rfl,rfl,Nat.le_refl _,fun _ _ _ _=>rfl,fun a h => .inl ⟨a,h,rfl⟩⟩
theorem RowTo.trans {w w1 w2:World} {q:Nat} {A A1 A2:Option Addr} (h:RowTo w q A w1 A1) (h':RowTo w1 q A1 w2 A2):RowTo w q A w2 A2:=
 ⟨h'.os.trans h.os,h'.tape.trans h.tape,h'.output.trans h.output,Nat.le_trans h.size h'.size,fun k hk hq ha=>by
  refine (h'.block k (Nat.lt_of_lt_of_le hk h.size) hq fun a1 e1=>?_).trans (h.block k hk hq ha)
  rcases h.row a1 e1 with ⟨a,e,hb⟩|hge
  ·rw [← hb];exact ha a e
  ·omega,fun a' e=>by
  rcases h'.row a' e with ⟨a1,e1,hb⟩|hge
  ·rcases h.row a1 e1 with ⟨a,e2,hb2⟩|hge
   ·exact .inl ⟨a,e2,hb2.trans hb⟩
   ·exact .inr (by omega)
  ·exact .inr (Nat.le_trans h.size hge)⟩
theorem RowTo.below {w w':World} {q:Nat} {A:Option Addr} (h:Below w.heap.size w w'):RowTo w q A w' A:=
 ⟨h.os,h.tape,h.output,h.size,fun k hk _ _=>h.block k hk,fun a e => .inl ⟨a,e,rfl⟩⟩
def Off (q:Nat) (A:Option Addr) (g:Nat):Prop:=g≠q∧∀ a,A=some a→a.block≠g
theorem Off.to {w w':World} {q g:Nat} {A A':Option Addr} (h:Off q A g) (ht:RowTo w q A w' A') (hg:g < w.heap.size):Off q A' g:=
 ⟨h.1,fun a' e=>by
  rcases ht.row a' e with ⟨a,e1,hb⟩|hge
  ·rw [← hb];exact h.2 a e1
  ·omega⟩
theorem RowTo.far {w w':World} {q:Nat} {A A':Option Addr} (h:RowTo w q A w' A') {g:Nat} (hg:g < w.heap.size) (ho:Off q A g):w'.heap[g]? = w.heap[g]? := h.block g hg ho.1 ho.2
theorem RowTo.own {w w':World} {q base size n:Nat} {A A':Option Addr} {e:TypeId} {v:Value} {xs:List Value} (h:RowTo w q A w' A') (ho:w.ownsRow base e size v n xs) (hf:∀ g,v.ownBlock=some g→Off q A g):w'.ownsRow base e size v n xs:=by
 refine ⟨ho.1,?_⟩
 rcases ho.2 with hn|⟨g,cap,cur,rfl,hb,hg,rest⟩
 ·exact .inl hn
 ·exact .inr ⟨g,cap,cur,rfl,hb,(h.far (by
   rcases Nat.lt_or_ge g w.heap.size with hlt|hge
   ·exact hlt
   ·rw [Array.getElem?_eq_none hge] at hg;cases hg) (hf g rfl)).trans hg,rest⟩
theorem RowTo.cell {w w':World} {q g j:Nat} {A A':Option Addr} (h:RowTo w q A w' A') (hg:g < w.heap.size) (ho:Off q A g):w'.cell? ⟨g,j,none⟩=w.cell? ⟨g,j,none⟩:=World.cell?_of_block (a:=⟨g,j,none⟩) (h.far hg ho)
theorem RowTo.frozen {w w':World} {q g j:Nat} {A A':Option Addr} (h:RowTo w q A w' A') (hg:g < w.heap.size) (ho:Off q A g):w'.frozen? ⟨g,j,none⟩=w.frozen? ⟨g,j,none⟩:=World.frozen?_of_block (a:=⟨g,j,none⟩) (h.far hg ho)
theorem RowTo.cells {w w':World} {q g n:Nat} {A A':Option Addr} {F:Nat→Value} (h:RowTo w q A w' A') (hc:CellsAt w g n F) (ho:Off q A g):CellsAt w' g n F:=
 ⟨Nat.lt_of_lt_of_le hc.1 h.size,fun j hj=>⟨(h.cell hc.1 ho).trans (hc.2 j hj).1,(h.frozen hc.1 ho).trans (hc.2 j hj).2⟩⟩
theorem RowTo.elder {w w':World} {q:Nat} {A A':Option Addr} (h:RowTo w q A w' A') (hq:q < w.heap.size) (hA:∀ a,A=some a→q≤a.block):Below q w w':=
 ⟨h.os,h.tape,h.output,h.size,fun k hk=>h.block k (Nat.lt_trans hk hq) (by omega) fun a e=>by have:=hA a e;omega⟩
end Go.Proofs.YthlijfligikciaaGreat
namespace Go.Proofs.YthlijfligikciaaGreat
open Go.RowKit
set_option linter.unusedSimpArgs false
set_option linter.unusedVariables false
set_option maxRecDepth 2000
structure PB (w:World) (p:Nat) (C:Option Addr) (cc:Nat) (L:List Pa):Prop where
 lt:p < w.heap.size
 cell:w.cell? ⟨p,0,none⟩=some (.slice C L.length cc)
 fz:w.frozen? ⟨p,0,none⟩=false
 own:w.ownsRow (p+1) 144 5 (.slice C L.length cc) L.length (paV L)
theorem PB.keep {w w':World} {p cc:Nat} {C:Option Addr} {L:List Pa} (h:PB w p C cc L) (hb:Below w.heap.size w w'):PB w' p C cc L:=
 ⟨Nat.lt_of_lt_of_le h.lt hb.size,(hb.cell (p:=⟨p,0,none⟩) h.lt).trans h.cell,(hb.frozen (p:=⟨p,0,none⟩) h.lt).trans h.fz,own_keep h.own hb⟩
theorem PB.row_lt {w:World} {p cc:Nat} {C:Option Addr} {L:List Pa} (h:PB w p C cc L):∀ a,C=some a→p < a.block∧a.block < w.heap.size:=fun a e=>by
 have:=h.own.lt a.block (by rw [e];rfl)
 omega
theorem pb_set {w W w':World} {p cc n k3:Nat} {C C3:Option Addr} {L:List Pa} {x:Pa} (h:PB w p C cc L) (hn:L.length=n) (hb:Below w.heap.size w W) (hg:W.grownBy w' (Value.slice C n cc).ownBlock)
  (ho:w'.ownsRow (p+1) 144 5 (.slice C3 (n+1) k3) (n+1) (paV L ++ [.int .i64 x.bx.a, .int .i64 x.bx.b, .int .i64 x.bx.c, .int .i64 x.bx.d, .int .i64 x.zoom])) (hat:∀ a,C3=some a→(Value.slice C n cc).ownBlock=some a.block∨w.heap.size≤a.block):
  PB (w'.setCell ⟨p,0,none⟩ (.slice C3 (n+1) k3)) p C3 k3 (L ++ [x])∧RowTo w p C (w'.setCell ⟨p,0,none⟩ (.slice C3 (n+1) k3)) C3:=by
 subst hn
 have hl:=h.lt
 have h':=h.keep hb
 have hs:=hb.size
 have hs2:=hg.size
 have hne:(Value.slice C L.length cc).ownBlock≠some p:=fun e=>by
  have:=(h.own.lt p e).1
  omega
 have e1:w'.cell? ⟨p,0,none⟩=some (.slice C L.length cc):=(hg.cell_far ⟨p,0,none⟩ (by show p < W.heap.size;omega) (Ne.symm hne)).trans h'.cell
 have e2:w'.frozen? ⟨p,0,none⟩=false:=(hg.frozen_far ⟨p,0,none⟩ (by show p < W.heap.size;omega) (Ne.symm hne)).trans h'.fz
 rw [← paV_snoc] at ho
 have hlen:(L ++ [x]).length=L.length+1:=by simp
 refine ⟨⟨by rw [World.size_setCell];omega,?_,?_,by rw [hlen];exact own_set ho (p:=⟨p,0,none⟩) (Nat.lt_succ_self p) _⟩,⟨?_,?_,?_,by rw [World.size_setCell];omega,fun j hj hq ha=>?_,fun a e=>?_⟩⟩
 ·rw [hlen];go_simp
 ·go_simp
 ·exact hg.os.trans hb.os
 ·exact hg.tape.trans hb.tape
 ·exact hg.output.trans hb.output
 ·refine (Below.heap_setCell w' ⟨p,0,none⟩ _ j hq).trans ((hg.block j (by omega) fun e=>?_).trans (hb.block j hj))
  cases C with
  | none=>cases e
  | some a=>exact ha a rfl (by injection e with e;exact e.symm)
 ·rcases hat a e with e|e
  ·left
   cases C with
   | none=>cases e
   | some a'=>exact ⟨a',rfl,by injection e⟩
  ·right
   exact e
theorem takeS_snoc {L:List Sp} {i:Nat} (h:i < L.length):L.take (i+1)=L.take i ++ [L.getD i sp0]:=by
 rw [List.take_succ_eq_append_getElem h]
 simp [List.getD,List.getElem?_eq_getElem h]
theorem band_snoc {L:List Sp} {i:Nat} (h:i < L.length) (y0 y1:Int):bandP y0 y1 (L.take (i+1))=bandP y0 y1 (L.take i) ++ [⟨⟨(L.getD i sp0).fr,y0,(L.getD i sp0).to,y1⟩,(L.getD i sp0).zoom⟩]:=by
 rw [takeS_snoc h]
 simp [bandP]
theorem band_len (y0 y1:Int) (L:List Sp):(bandP y0 y1 L).length=L.length:=by simp [bandP]
set_option maxHeartbeats 16000000 in
theorem pt1_any (p cc m cs:Nat) (C S:Option Addr) (L:List Pa) (runs:List Sp) (y0 y1:Int) (w:World) (h:PB w p C cc L) (hS:Sps w w.heap.size S runs) (hoff:0 < runs.length→∀ a,S=some a→Off p C a.block) (hm:runs.length=m) (hl:L.length+m≤100000000000):
  Calls Tryz.prog 111 #[.int .i64 y0, .int .i64 y1, .slice S m cs, .pointer (some ⟨p,0,none⟩)] w fun e w'=>e = .returned (.tuple #[])∧∃ C' cc',PB w' p C' cc' (L ++ bandP y0 y1 runs)∧RowTo w p C w' C':=by
 obtain ⟨i0,hi,hz0,hz1,hz2⟩:=info_parts (show (Tryz.prog.info? 144).map (fun i=>(i.zero,i.size,i.bytes))=some (some (.agg #[.int .i64 0, .int .i64 0, .int .i64 0, .int .i64 0, .int .i64 0]),5,40) by kernel_rfl)
 have H:=Lib.hid h
 have HS:=Lib.hid hS
 have HO:=Lib.hid hoff
 have HM:=Lib.hid hm
 have HL:=Lib.hid hl
 have hp:=h.lt
 have hm1:m≤100000000000:=by omega
 clear h hS hoff hm hl
 go_enter Tryz.func111,Tryz.ntmps111
 go_wp2
 go_loopw [11] (fun i wr=>∃ (k:Nat),i = .int .i64 k∧k≤m∧w.heap.size≤wr.heap.size∧Hid (∃ C' cc',PB wr p C' cc' (L ++ bandP y0 y1 (runs.take k))∧RowTo w p C wr C')∧Below p w wr) (fun i _=>m - (intOf i).toNat)
 case atStart=>exact ⟨0,rfl,by omega,Nat.le_refl _,⟨C,cc,by rw [show bandP y0 y1 (runs.take 0)=[] from rfl,List.append_nil];exact H.out,RowTo.refl _ _ _⟩,Below.refl _ _⟩
 case round=>
  obtain ⟨k,rfl,hk,hsz,hrel,hbel⟩:=hrel
  obtain ⟨X,rfl⟩:∃ X:Later p w,wr=X.w:=⟨⟨wr,hbel⟩,rfl⟩
  clear hbel
  by_cases hlt:k < m
  ·have hkR:k < runs.length:=by rw [HM.out];exact hlt
   obtain ⟨C',cc',hPB,hto⟩:=hrel.out
   obtain ⟨b,o,hSe,hB,hc⟩:=HS.out (by omega)
   subst hSe
   have hof:=HO.out (by omega) _ rfl
   obtain ⟨c0,c1,c2⟩:=hc k hkR
   have d0:=(hto.cell (j:=o+k*3) hB hof).trans c0
   have d1:=(hto.cell (j:=o+k*3+1) hB hof).trans c1
   have d2:=(hto.cell (j:=o+k*3+2) hB hof).trans c2
   have hbl:b < X.w.heap.size:=Nat.lt_of_lt_of_le hB hsz
   have hsn:=band_snoc hkR y0 y1
   obtain ⟨x,hx⟩:∃ x,runs.getD k sp0=x:=⟨_,rfl⟩
   rw [hx] at d0 d1 d2 hsn
   obtain ⟨Q,hQ⟩:∃ Q,L ++ bandP y0 y1 (runs.take k)=Q:=⟨_,rfl⟩
   have hQl:Q.length=L.length+k:=by rw [← hQ,List.length_append,band_len,List.length_take,HM.out];omega
   rw [hQ] at hPB
   have HN:=Lib.hid (show L ++ bandP y0 y1 (runs.take (k+1))=Q ++ [⟨⟨x.fr,y0,x.to,y1⟩,x.zoom⟩] by rw [hsn,← List.append_assoc,hQ])
   obtain ⟨n,hn⟩:∃ n,Q.length=n:=⟨_,rfl⟩
   have hn1:n≤100000000000:=by have:=HL.out;omega
   have cq:=hPB.cell
   have cz:=hPB.fz
   have hpx:=hPB.lt
   have hown:=hPB.own
   rw [hn] at cq hown
   have HP:=Lib.hid (And.intro hPB (And.intro hto hn))
   have HOW:=Lib.hid hown
   clear hPB hto hn hQ hQl hsn hx hc c0 c1 c2 hown hrel
   go_wp2_with (at_builtin;refine wpList_append_lies _ rfl _ _ 141 rfl (p+1) 144 i0 (.agg #[.int .i64 0, .int .i64 0, .int .i64 0, .int .i64 0, .int .i64 0]) 5 40 Tryz.underlying141 hi hz0 hz1 hz2 rfl (by omega) (.slice C' n cc') n _ (by rfl) ((HOW.out.alloc _).alloc _) ⟨X.w.heap.size+1,0,none⟩ 1 1 [.int .i64 x.fr, .int .i64 y0, .int .i64 x.to, .int .i64 y1, .int .i64 x.zoom] (by rfl) (by rfl) (World.news_of_block (cs:=#[.int .i64 x.fr, .int .i64 y0, .int .i64 x.to, .int .i64 y1, .int .i64 x.zoom]) (t:=144) (fr:=(0,0)) (by first|exact heap_alloc_new _ _|(have:=heap_alloc_new (X.w.alloc (Obj.cells #[.int .i64 x.fr, .int .i64 x.to, .int .i64 x.zoom] 209)) (Obj.cells #[.int .i64 x.fr, .int .i64 y0, .int .i64 x.to, .int .i64 y1, .int .i64 x.zoom] 144);simpa using this))) (by simp [Value.oneCell']) (by omega) (by unfold maxLen;omega) (by omega) (by simp;omega) (X.w.heap.size+2) (by simp) ?_;intro gg cap w5 hown5 hgrow5 hat5 hlt5;have hnq:(Value.slice C' n cc').ownBlock≠some p:=(fun e=>by have:=(HOW.out.lt _ e).1;omega);have y5:w5.frozen? ⟨p,0,none⟩=false:=(hgrow5.frozen_far _ (by simp;omega) (Ne.symm hnq)).trans ((((Below.refl X.w.heap.size X.w).alloc (Nat.le_refl _) _).alloc (by simp) _).frozen (p:=⟨p,0,none⟩) hpx |>.trans cz);have d5:w5.cell? ⟨p,0,none⟩=some (.slice C' n cc'):=(hgrow5.cell_far _ (by simp;omega) (Ne.symm hnq)).trans ((((Below.refl X.w.heap.size X.w).alloc (Nat.le_refl _) _).alloc (by simp) _).cell (p:=⟨p,0,none⟩) hpx |>.trans cq);have HE:=Lib.hid (pb_set (x:=⟨⟨x.fr,y0,x.to,y1⟩,x.zoom⟩) HP.out.1 HP.out.2.2 (((Below.refl X.w.heap.size X.w).alloc (Nat.le_refl _) _).alloc (by simp) _) hgrow5 hown5 (fun a e=>by injection e with e;subst e;rcases hat5 with e|e;exact .inl e;exact .inr (by simp only;omega)));have hs5:=HE.out.2.size;clear hown5 hgrow5 hat5 hnq)
   go_roundw
   case rel=>
    have hto2:=HP.out.2.1.trans HE.out.2
    exact ⟨k+1,by go_num,by have:=HM.out;omega,hto2.size,⟨_,_,by rw [HN.out];exact HE.out.1,hto2⟩,hto2.elder hp (fun a e=>Nat.le_of_lt (H.out.row_lt a e).1)⟩
   case measure=>have:=HM.out;simp [intOf];omega
  ·obtain rfl:k=m:=by omega
   obtain ⟨C',cc',hPB,hto⟩:=hrel.out
   have e9:runs.take k=runs:=by rw [← HM.out,List.take_length]
   rw [e9] at hPB
   have HP:=Lib.hid (And.intro hPB hto)
   clear hPB hto hrel e9
   go_wp2
   go_end0
   exact ⟨rfl,C',cc',HP.out⟩
theorem rise_len {L:List Int} (h:L.Pairwise (· < ·)) {n:Nat} (hr:∀ x ∈ L,0≤x∧x≤(n:Int)):L.length≤n+1:=by
 have key:∀ i,i < L.length→(i:Int)≤L.getD i 0:=by
  intro i
  induction i with
  | zero=>intro hi;have:=hr (L.getD 0 0) (by simp [List.getD,List.getElem?_eq_getElem hi]);omega
  | succ i ih=>
   intro hi
   have h1:=ih (by omega)
   have h2:L.getD i 0 < L.getD (i+1) 0:=pair_get h (Nat.lt_succ_self i) hi
   omega
 rcases Nat.eq_zero_or_pos L.length with h0|h0
 ·omega
 ·have h1:=key (L.length - 1) (by omega)
  have h2:=hr (L.getD (L.length - 1) 0) (by rw [show L.getD (L.length - 1) 0=L[L.length - 1] by simp [List.getD,List.getElem?_eq_getElem (show L.length - 1 < L.length by omega)]];exact List.getElem_mem _)
  omega
theorem ok_rng {l:List Rl} (h:OkL l):∀ r ∈ l,∀ b ∈ r.boxes,rightX b=true:=fun r hr b hb=>rightR_boxes (h r hr) b hb
theorem rightX_rng {b:Bx} (h:rightX b=true):0≤b.a∧b.a≤b.c∧b.c≤65535∧0≤b.b∧b.b≤b.d∧b.d≤65535:=by
 unfold rightX rightB at h
 simp at h
 omega
theorem pts_rng {f1 f2:Bx→Int} {l:List Rl} (h:∀ r ∈ l,∀ b ∈ r.boxes,0≤f1 b∧f1 b≤65535∧0≤f2 b∧f2 b≤65535):∀ x ∈ edgesL (ptsL f1 f2 l),0≤x∧x≤65536:=by
 intro x hx
 rw [edges_mem] at hx
 unfold ptsL ptsB at hx
 obtain ⟨r,hr,hx⟩:=List.mem_flatMap.1 hx
 obtain ⟨b,hb,hx⟩:=List.mem_flatMap.1 hx
 have:=h r hr b hb
 simp at hx
 omega
theorem xsL_rng {l:List Rl} (h:OkL l):∀ x ∈ xsL l,0≤x∧x≤65536:=pts_rng fun r hr b hb=>by have:=rightX_rng (ok_rng h r hr b hb);omega
theorem ysL_rng {l:List Rl} (h:OkL l):∀ x ∈ ysL l,0≤x∧x≤65536:=pts_rng fun r hr b hb=>by have:=rightX_rng (ok_rng h r hr b hb);omega
theorem xsL_len {l:List Rl} (h:OkL l):(xsL l).length≤65537:=rise_len (edges_lt _) (n:=65536) (xsL_rng h)
theorem ysL_len {l:List Rl} (h:OkL l):(ysL l).length≤65537:=rise_len (edges_lt _) (n:=65536) (ysL_rng h)
theorem rowP_len {l:List Rl} (h:OkL l) (y:Int):(rowP l (xsL l) y).length≤65536:=by
 have h1:=rowN_len l (xsL l) y ((xsL l).length - 1)
 have h2:=xsL_len h
 unfold rowP
 omega
def patsB (l:List Rl):Nat:=2*cntB l*(2*cntB l)
theorem xsL_cnt (l:List Rl):(xsL l).length≤2*cntB l:=by
 have h1:=edges_len (ptsL (fun b=>b.a) (fun b=>b.c) l)
 rw [ptsL_len] at h1
 exact h1
theorem ysL_cnt (l:List Rl):(ysL l).length≤2*cntB l:=by
 have h1:=edges_len (ptsL (fun b=>b.b) (fun b=>b.d) l)
 rw [ptsL_len] at h1
 exact h1
theorem rowP_cnt (l:List Rl) (y:Int):(rowP l (xsL l) y).length≤2*cntB l:=by
 have h1:=rowN_len l (xsL l) y ((xsL l).length - 1)
 have h2:=xsL_cnt l
 unfold rowP
 omega
theorem Ints.to {w w':World} {B q:Nat} {A C C':Option Addr} {L:List Int} (h:Ints w B A L) (ht:RowTo w q C w' C') (hB:B≤w.heap.size) (ho:0 < L.length→∀ a,A=some a→Off q C a.block):Ints w' B A L:=fun hn=>by
 obtain ⟨b,o,rfl,hlt,hc⟩:=h hn
 exact ⟨b,o,rfl,hlt,fun i hi=>(ht.cell (Nat.lt_of_lt_of_le hlt hB) (ho hn _ rfl)).trans (hc i hi)⟩
def GrowPost (l:List Rl) (xs:List Int) (y:Int) (w:World) (e:Ending) (w':World):Prop:=
 ∃ C cc m M,e = .returned (.slice C m cc)∧(M=rowP l xs y∧M.length=m)∧Sps w' w'.heap.size C M∧(0 < m→∀ a,C=some a→w.heap.size≤a.block)∧Below w.heap.size w w'
theorem own_new {w:World} {base n c s:Nat} {e:TypeId} {A:Option Addr} {xs:List Value} (h:w.ownsRow base e s (.slice A n c) n xs) (hn:0 < n):∀ a,A=some a→base≤a.block:=fun a ha=>by
 obtain ⟨g,cap,hv,hb,_⟩:=h.form (by omega)
 have:A=some ⟨g,0,none⟩:=by injection hv
 rw [this] at ha
 injection ha with ha
 subst ha
 exact hb
theorem grow_post (n c nx cx:Nat) (A D:Option Addr) (L:List Rl) (P:Nat→Option Addr × Nat) (xs:List Int) (y:Int) (w:World) (h:Rls w w.heap.size A L P) (hn:L.length=n) (hn1:n≤1000000) (hbx:∀ i,i < n→(L.getD i rl0).boxes.length≤9223372036854775806) (hx:Ints w w.heap.size D xs) (hxn:xs.length=nx) (hx1:nx≤4000000) (hxr:∀ x ∈ xs,0≤x∧x≤65536):
  Calls Tryz.prog 143 #[.slice A n c, .slice D nx cx, .int .i64 y] w (GrowPost L xs y w):=by
 refine (grow_any n c nx cx A D L P xs y w h hn hn1 hbx hx hxn hx1 hxr).mono ?_
 rintro e w' ⟨⟨C,cc,rfl,hown⟩,hb⟩
 exact ⟨C,cc,_,_,rfl,⟨rfl,rfl⟩,sps_own hown rfl,own_new hown,hb⟩
def EdgePost (xs:List Int) (w:World) (e:Ending) (w':World):Prop:=
 ∃ C cc m,e = .returned (.slice C m cc)∧xs.length=m∧Ints w' w'.heap.size C xs∧(0 < m→∀ a,C=some a→w.heap.size≤a.block)∧Below w.heap.size w w'
theorem edgesX_post (n c:Nat) (A:Option Addr) (L:List Rl) (P:Nat→Option Addr × Nat) (w:World) (h:Rls w w.heap.size A L P) (hn:L.length=n) (hcnt:cntB L≤1048576) (hn1:n≤1000000) (hok:OkL L):
  Calls Tryz.prog 140 #[.slice A n c, .func (.func 141) #[] #[]] w (EdgePost (xsL L) w):=by
 refine (gedgesX_any n c A L P w h hn hcnt hn1 (fun r hr b hb=>by have:=rightX_rng (ok_rng hok r hr b hb);omega)).mono ?_
 rintro e w' ⟨⟨C,cc,rfl,hown⟩,hb⟩
 exact ⟨C,cc,_,rfl,rfl,ints_own hown,own_new hown,hb⟩
theorem edgesY_post (n c:Nat) (A:Option Addr) (L:List Rl) (P:Nat→Option Addr × Nat) (w:World) (h:Rls w w.heap.size A L P) (hn:L.length=n) (hcnt:cntB L≤1048576) (hn1:n≤1000000) (hok:OkL L):
  Calls Tryz.prog 140 #[.slice A n c, .func (.func 142) #[] #[]] w (EdgePost (ysL L) w):=by
 refine (gedgesY_any n c A L P w h hn hcnt hn1 (fun r hr b hb=>by have:=rightX_rng (ok_rng hok r hr b hb);omega)).mono ?_
 rintro e w' ⟨⟨C,cc,rfl,hown⟩,hb⟩
 exact ⟨C,cc,_,rfl,rfl,ints_own hown,own_new hown,hb⟩
end Go.Proofs.YthlijfligikciaaGreat
