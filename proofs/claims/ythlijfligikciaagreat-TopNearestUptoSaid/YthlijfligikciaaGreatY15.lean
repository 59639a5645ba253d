/- A part of one proof: PqC CellB. No condition. -/
import Derived.Test.YthlijfligikciaaGreatY14
import Derived.Test.YthlijfligikciaaGreatY01
import Derived.Deep.RegionHeld3
import Derived.Test.YthlijfligikciaaGreatY10
namespace Go.Proofs.YthlijfligikciaaGreat
open Go.RowKit Go.Maps
set_option linter.unusedSimpArgs false
set_option linter.unusedVariables false
set_option maxRecDepth 2000
section
variable {w w3:World} {s q cc g i m k3:Nat} {N:List NdP} {A3:Option Addr} {rs':List Rc}
theorem PtG.row (h:PtG w s q (some ⟨g,0,none⟩) cc N) (hi:i < N.length) (hc:Chg (gP (ndAt N i).2.1) w w3) (hown:w3.ownsRow (q+1) 32 4 (.slice A3 m k3) m (rcF rs')) (hm:rs'.length=m) (hA:∀ j,gP A3 j→gP (ndAt N i).2.1 j∨w.heap.size≤j) {n:NdP} (hn:n=({ (ndAt N i).1 with rs:=rs' },(A3,k3))):
  PtG (w3.setCell ⟨g,i*10+9,none⟩ (.slice A3 m k3)) s q (some ⟨g,0,none⟩) cc (N.set i n):=by
 subst hn hm
 have hg:gP (some ⟨g,0,none⟩) g:=rfl
 have hfc:=h.farC g hg
 have hgi:¬ gP (ndAt N i).2.1 g:=fun e=>h.disC i hi g e hg
 have hqi:¬ gP (ndAt N i).2.1 q:=fun e=>by have:=h.farR hi q e;omega
 have hgA:¬ gP A3 g:=fun e=>(hA g e).elim hgi (fun e=>by omega)
 have hblk:∀ k,k≠g→(w3.setCell ⟨g,i*10+9,none⟩ (.slice A3 rs'.length k3)).heap[k]? = w3.heap[k]? := fun k hk=>Below.heap_setCell w3 _ _ k hk
 have hq:q≠g:=by omega
 have hnd:∀ z,z≠i→ndAt (N.set i ({ (ndAt N i).1 with rs:=rs' },(A3,k3))) z=ndAt N z:=fun z hz=>by rw [ndAt_set hi,if_neg hz]
 have hni:ndAt (N.set i ({ (ndAt N i).1 with rs:=rs' },(A3,k3))) i=({ (ndAt N i).1 with rs:=rs' },(A3,k3)):=by rw [ndAt_set hi,if_pos rfl]
 have ho:=((own_chg h.own hc (fun k hk e=>h.disC i hi k e (by rw [gOf_own] at hk;exact hk))).stored (i*10+9) (.slice A3 rs'.length k3)).1
 have hs:(ndF N).set (i*10+9) (.slice A3 rs'.length k3)=ndF (N.set i ({ (ndAt N i).1 with rs:=rs' },(A3,k3))):=flat_set ndC_len N i hi 9 (by decide) _ _ (by rw [← ndAt_lt hi];rfl)
 rw [hs] at ho
 have hcell:∀ o v,w.cell? ⟨q,o,none⟩=some v→(w3.setCell ⟨g,i*10+9,none⟩ (.slice A3 rs'.length k3)).cell? ⟨q,o,none⟩=some v:=fun o v hv=>((World.cell?_of_block (a:=⟨q,o,none⟩) (hblk q hq)).trans (hc.cell (p:=⟨q,o,none⟩) h.lt hqi)).trans hv
 refine ⟨by rw [World.size_setCell];exact Nat.lt_of_lt_of_le h.lt hc.size,h.ls,hcell _ _ h.c0,by rw [List.length_set];exact hcell _ _ h.c1,((World.frozen?_of_block (a:=⟨q,1,none⟩) (hblk q hq)).trans (hc.frozen (p:=⟨q,1,none⟩) h.lt hqi)).trans h.f1,hcell _ _ h.c2,hcell _ _ h.c3,by rw [List.length_set];exact ho,fun z hz=>?_,fun z z' hz hz' hne k hk=>?_,fun z hz k hk=>?_⟩
 ·rw [List.length_set] at hz
  by_cases e:z=i
  ·rw [e,hni]
   exact own_setO hown (fun k hk e=>hgA (by rw [gOf_own] at hk;unfold gP;rw [hk,← e])) _
  ·rw [hnd z e]
   exact own_setO (own_chg (h.rows z hz) hc (fun k hk e'=>h.dis i z hi hz (fun e9=>e e9.symm) k e' (by rw [gOf_own] at hk;exact hk))) (fun k hk e'=>h.disC z hz k (by rw [gOf_own] at hk;exact hk) (by rw [← e'];exact hg)) _
 ·rw [List.length_set] at hz hz'
  by_cases e:z=i
  ·rw [e,hni] at hk
   by_cases e':z'=i
   ·exact absurd (e.trans e'.symm) hne
   ·rw [hnd z' e']
    intro hk'
    rcases hA k hk with h1|h1
    ·exact h.dis i z' hi hz' (fun e9=>e' e9.symm) k h1 hk'
    ·have:=h.farR hz' k hk';omega
  ·rw [hnd z e] at hk
   by_cases e':z'=i
   ·rw [e',hni]
    intro hk'
    rcases hA k hk' with h1|h1
    ·exact h.dis i z hi hz (fun e9=>e e9.symm) k h1 hk
    ·have:=h.farR hz k hk;omega
   ·rw [hnd z' e']
    exact h.dis z z' hz hz' hne k hk
 ·rw [List.length_set] at hz
  by_cases e:z=i
  ·rw [e,hni] at hk
   intro hk'
   have e9:k=g:=by unfold gP gOf at hk';injection hk' with hk';exact hk'.symm
   exact hgA (by rw [← e9];exact hk)
  ·rw [hnd z e] at hk
   exact h.disC z hz k hk
theorem PX_row {C:Option Addr} {B:Nat} (hi:i < N.length) (hA:∀ j,gP A3 j→gP (ndAt N i).2.1 j∨B≤j) {n:NdP} (hn:n.2.1=A3):∀ k,PX q C (N.set i n) k→PX q C N k∨B≤k:=fun k hk=>by
 rcases hk with hk|hk|⟨z,hz,hk⟩
 ·exact .inl (.inl hk)
 ·exact .inl (.inr (.inl hk))
 ·rw [List.length_set] at hz
  rw [ndAt_set hi] at hk
  by_cases e:z=i
  ·rw [if_pos e,hn] at hk
   rcases hA k hk with h1|h1
   ·exact .inl (.inr (.inr ⟨i,hi,h1⟩))
   ·exact .inr h1
  ·rw [if_neg e] at hk
   exact .inl (.inr (.inr ⟨z,hz,hk⟩))
end
def PutPost (q:Nat) (s:Nat) (C:Option Addr) (N:List NdP) (l x y:Int) (t:QT) (r:Rc) (w:World) (e:Ending) (w':World):Prop:=
 e = .returned (.tuple #[])∧∃ C' cc' N' t',PtG w' s q C' cc' N'∧PutR N N' l x y t t' r∧N'.length≤N.length+addB t l∧Chg (PX q C N) w w'∧∀ j,PX q C' N' j→PX q C N j∨w.heap.size≤j
def PartPost (q:Nat) (s:Nat) (C:Option Addr) (N:List NdP) (l x y:Int) (i:Nat) (rs:List Rc) (w:World) (e:Ending) (w':World):Prop:=
 e = .returned (.tuple #[])∧∃ C' cc' N' t',PtG w' s q C' cc' N'∧PartR N N' l x y i rs t'∧N'.length≤N.length+(4*(16 - l)).toNat∧Chg (PX q C N) w w'∧∀ j,PX q C' N' j→PX q C N j∨w.heap.size≤j
def PartOk (k:Int):Prop:=∀ (s q cc i:Nat) (C:Option Addr) (N:List NdP) (l x y:Int) (rs:List Rc) (p:Option Addr × Nat) (w:World),PtG w s q C cc N→N.length+200*(16 - l).toNat≤900000→i < N.length→ndAt N i=(⟨l,x,y,noKids,rs.length,false,rs⟩,p)→(∀ r ∈ rs,inC l x y r)→rs.length=4→0≤l→l < 16→k≤l→
 Calls Tryz.prog 102 #[.pointer (some ⟨q,0,none⟩), .int .i64 i] w (PartPost q s C N l x y i rs w)
theorem PartOk.mono {k k':Int} (h:PartOk k) (hk:k≤k'):PartOk k':=fun s q cc i C N l x y rs p w a b c d e f g1 g2 g3=>h s q cc i C N l x y rs p w a b c d e f g1 g2 (Int.le_trans hk g3)
set_option maxHeartbeats 16000000 in
theorem pput_any (k:Int) (HP:PartOk k) (s q cc:Nat) (C:Option Addr) (N:List NdP) (l x y:Int) (t:QT) (r:Rc) (w:World) (h:PtG w s q C cc N) (hN:N.length+200*(16 - k).toNat≤900000) (hh:Holds N l x y t) (hnd:t.ix.Nodup) (hr:inC l x y r) (hl:0≤l∧l≤16) (hk:k≤levT t l) (hlt:t.rs.length≤100000):
  Calls Tryz.prog 59 #[.pointer (some ⟨q,0,none⟩), .int .i64 t.at_, .agg #[.int .i64 r.id, .int .i64 r.x, .int .i64 r.y, .int .i64 r.label]] w (PutPost q s C N l x y t r w):=by
 obtain ⟨i0,hi0,hz0,hz1,hz2⟩:=info_parts (show (Tryz.prog.info? 32).map (fun i=>(i.zero,i.size,i.bytes))=some (some (.agg #[.int .i64 0, .int .i64 0, .int .i64 0, .int .i64 0]),4,32) by kernel_rfl)
 have hnl:=holds_ndlt hh
 obtain ⟨g,rfl,hqg,hgl⟩:=h.g (by omega)
 have H:=Lib.hid (show PtG w s q (some ⟨g,0,none⟩) cc N∧Holds N l x y t∧t.ix.Nodup∧inC l x y r∧(0≤l∧l≤16)∧k≤levT t l from ⟨h,hh,hnd,hr,hl,hk⟩)
 have hq:=h.lt
 have HF:=Lib.hid (show ∀ w',PutPost q s (some ⟨g,0,none⟩) N l x y t r w (.returned (.tuple #[])) w'→PutPost q s (some ⟨g,0,none⟩) N l x y t r w (.returned (.tuple #[])) w' from fun _ h=>h)
 generalize hPost:PutPost q s (some ⟨g,0,none⟩) N l x y t r w=Post
 clear h hh hnd hr hl hk HF
 go_enter Tryz.func59,Tryz.ntmps59
 go_wp2_with fail
 go_loopw [1] (fun a wr=>∃ (N1:List NdP) (t1:QT) (l1 x1 y1:Int),N1.length=N.length∧t1.at_ < N.length∧t1.rs.length≤100000∧a = .int .i64 t1.at_∧(w.heap.size < wr.heap.size∧wr.cell? ⟨w.heap.size,0,none⟩=some (.int .i64 r.id)∧wr.cell? ⟨w.heap.size,1,none⟩=some (.int .i64 r.x)∧wr.cell? ⟨w.heap.size,2,none⟩=some (.int .i64 r.y)∧wr.cell? ⟨w.heap.size,3,none⟩=some (.int .i64 r.label))∧Hid (PtG wr s q (some ⟨g,0,none⟩) cc N1∧Holds N1 l1 x1 y1 t1∧t1.ix.Nodup∧inC l1 x1 y1 r∧(0≤l1∧l1≤16)∧k≤levT t1 l1∧addB t1 l1≤addB t l∧(∀ N2 t2,PutR N1 N2 l1 x1 y1 t1 t2 r→∃ t',PutR N N2 l x y t t' r)∧(∀ j,PX q (some ⟨g,0,none⟩) N1 j↔PX q (some ⟨g,0,none⟩) N j)∧Chg (gP (some ⟨g,0,none⟩)) w wr)) (fun a _=>N.length - (intOf a).toNat)
 case atStart=>exact ⟨N,t,l,x,y,rfl,hnl,hlt,rfl,⟨by simp,by go_simp,by go_simp,by go_simp,by go_simp⟩,⟨H.out.1.keep ((Below.refl _ _).alloc (Nat.le_refl _) _),H.out.2.1,H.out.2.2.1,H.out.2.2.2.1,H.out.2.2.2.2.1,H.out.2.2.2.2.2,Nat.le_refl _,fun N2 t2 h=>⟨t2,h⟩,fun j=>Iff.rfl,Chg.of ((Below.refl _ _).alloc (Nat.le_refl _) _)⟩⟩
 case round=>
  obtain ⟨N1,t1,l1,x1,y1,hlen1,hat1,hrs1,rfl,⟨hsz,b0,b1,b2,b3⟩,hrel⟩:=hrel
  have hP1:=hrel.out.1
  have q1:wr.cell? ⟨q,1,none⟩=some (.slice (some ⟨g,0,none⟩) N.length cc):=by rw [← hlen1];exact hP1.c1
  have hgw:g < wr.heap.size:=(hP1.farC g rfl).2
  have hqw:q < wr.heap.size:=hP1.lt
  cases t1 with
  | node i ks=>
   obtain ⟨hP,hh,hnd,hr,hl,hk,hab,hwand,hPX,hc⟩:=hrel.out
   have hiN:i < N1.length:=hh.1
   have hnode:=hh.2.1
   have d7:=hP.cells hiN (j:=7) (by decide) (v := .int .i64 ((QT.node i ks).rs.length:Nat)) (by rw [hnode];rfl)
   have d8:=hP.cells hiN (j:=8) (by decide) (v := .bool true) (by rw [hnode];rfl)
   have f7:=hP.froz (i*10+7)
   have hat1':i < N.length:=hat1
   have hset:=hP.set hiN (j:=7) (by decide) (v := .int .i64 ((QT.node i ks).rs.length+1:Nat)) (n:=(⟨l1,x1,y1,fun m=>((ks m).at_:Nat),(QT.node i ks).rs.length+1,true,[]⟩,(none,0))) (by rw [hnode];rfl) (by rw [hnode]) (by rw [hnode])
   have hl16:=hh.2.2.1
   have hdown:=put_down hh hnd (kidJ l1 r.x r.y)
   have hin:=kid_in hl.1 hl16 hr
   have hjl:=(kidJ l1 r.x r.y).isLt
   have hkat:=hh.2.2.2.1 (kidJ l1 r.x r.y)
   have hkn:=holds_ndlt hdown
   rw [List.length_set] at hkn
   have hup:=fun (N2:List NdP) (t2:QT) (h9:PutR _ N2 _ _ _ _ t2 r)=>put_up hh hnd (j:=kidJ l1 r.x r.y) h9
   have hkrs:=rs_kid_le (i:=i) (k:=ks) (kidJ l1 r.x r.y)
   have hset2:ndAt (N1.set i (⟨l1,x1,y1,fun m=>((ks m).at_:Nat),(QT.node i ks).rs.length+1,true,[]⟩,(none,0))) i=(⟨l1,x1,y1,fun m=>((ks m).at_:Nat),(QT.node i ks).rs.length+1,true,[]⟩,(none,0)):=by rw [ndAt_set hiN,if_pos rfl]
   have PK:=Lib.hid (fun (Y:World) (hY:Below (wr.setCell ⟨g,i*10+7,none⟩ (.int .i64 ((QT.node i ks).rs.length+1:Nat))).heap.size (wr.setCell ⟨g,i*10+7,none⟩ (.int .i64 ((QT.node i ks).rs.length+1:Nat))) Y)=>pkid_any s q cc i _ _ l1 r.x r.y Y (hset.keep hY) (by rw [List.length_set];omega) (by rw [List.length_set];exact hiN) (by rw [hset2]) hl.1 hl16 hr.1)
   have dk:(wr.setCell ⟨g,i*10+7,none⟩ (.int .i64 ((QT.node i ks).rs.length+1:Nat))).cell? ⟨g,i*10+3+(kidJ l1 r.x r.y).val,none⟩=some (.int .i64 ((ks (kidJ l1 r.x r.y)).at_:Nat)):=by
    rw [Nat.add_assoc]
    refine hset.cells (by rw [List.length_set];exact hiN) (j:=3+(kidJ l1 r.x r.y).val) (by omega) ?_
    rw [hset2]
    match kidJ l1 r.x r.y with
    | 0=>rfl
    | 1=>rfl
    | 2=>rfl
    | 3=>rfl
   have HN:=Lib.hid (show PtG _ s q _ cc _∧Holds _ (l1+1) _ _ (ks (kidJ l1 r.x r.y))∧(ks (kidJ l1 r.x r.y)).ix.Nodup∧inC (l1+1) _ _ r∧(0≤l1+1∧l1+1≤16)∧k≤levT (ks (kidJ l1 r.x r.y)) (l1+1)∧addB (ks (kidJ l1 r.x r.y)) (l1+1)≤addB t l∧(∀ N2 t2,PutR _ N2 _ _ _ (ks (kidJ l1 r.x r.y)) t2 r→∃ t',PutR N N2 l x y t t' r)∧(∀ j,PX q (some ⟨g,0,none⟩) (N1.set i (⟨l1,x1,y1,fun m=>((ks m).at_:Nat),(QT.node i ks).rs.length+1,true,[]⟩,(none,0))) j↔PX q (some ⟨g,0,none⟩) N j)∧Chg (gP (some ⟨g,0,none⟩)) w (wr.setCell ⟨g,i*10+7,none⟩ (.int .i64 ((QT.node i ks).rs.length+1:Nat))) from ⟨hset,hdown,(nodup_node.1 hnd).each _,hin,⟨by omega,by omega⟩,Int.le_trans hk (levT_kid _),Nat.le_trans (addB_kid _) hab,fun N2 t2 h9=>hwand N2 _ (hup N2 t2 h9),fun j=>(PX_set hiN (by rw [hnode]) j).trans (hPX j),hc.set (p:=⟨g,i*10+7,none⟩) (.inl rfl) _⟩)
   obtain ⟨jv,hjv⟩:∃ jv,(kidJ l1 r.x r.y).val=jv:=⟨_,rfl⟩
   obtain ⟨kt,hkt⟩:∃ kt,ks (kidJ l1 r.x r.y)=kt:=⟨_,rfl⟩
   rw [hjv] at PK dk hjl
   rw [hkt] at dk HN hkat hkn hkrs
   obtain ⟨m,hm⟩:∃ m,(QT.node i ks).rs.length=m:=⟨_,rfl⟩
   rw [hm] at d7 PK dk HN hrs1 hkrs
   rw [show ((m+1:Nat):Int)=(m:Int)+1 by omega] at PK dk HN
   clear hP hh hnd hr hl hk hab hwand hPX hc hnode hset hdown hin hup hset2 hjv hkt hm hrel hP1
   rw [show (QT.node i ks).at_=i from rfl]
   go_wp2_with fail
   have v1:(wr.setCell ⟨g,i*10+7,none⟩ (.int .i64 ((m:Int)+1))).cell? ⟨q,1,none⟩=some (.slice (some ⟨g,0,none⟩) N.length cc):=by go_simp
   have vb0:(wr.setCell ⟨g,i*10+7,none⟩ (.int .i64 ((m:Int)+1))).cell? ⟨w.heap.size,0,none⟩=some (.int .i64 r.id):=by go_simp
   have vb1:(wr.setCell ⟨g,i*10+7,none⟩ (.int .i64 ((m:Int)+1))).cell? ⟨w.heap.size,1,none⟩=some (.int .i64 r.x):=by go_simp
   have vb2:(wr.setCell ⟨g,i*10+7,none⟩ (.int .i64 ((m:Int)+1))).cell? ⟨w.heap.size,2,none⟩=some (.int .i64 r.y):=by go_simp
   have vb3:(wr.setCell ⟨g,i*10+7,none⟩ (.int .i64 ((m:Int)+1))).cell? ⟨w.heap.size,3,none⟩=some (.int .i64 r.label):=by go_simp
   have vs:(wr.setCell ⟨g,i*10+7,none⟩ (.int .i64 ((m:Int)+1))).heap.size=wr.heap.size:=by rw [World.size_setCell]
   generalize (wr.setCell ⟨g,i*10+7,none⟩ (.int .i64 ((m:Int)+1)))=V at v1 vb0 vb1 vb2 vb3 vs PK dk HN ⊢
   clear q1 b0 b1 b2 b3 d7 d8 f7
   (refine wp_region_later (V.heap.size) (by kernel_rfl) (by kernel_rfl) (by go_size) ?_;(repeat (go_big_quiet_step ((first|(go_at_call 101;exact Later.call _ (Nat.le_trans (by go_size) (Later.is _).size) (PK.out _ q9l))))));refine wpQuiet_nil ?_;intro Xq hlXq hmXq)
   have hbq:Below V.heap.size V Xq.w:=q9l
   have hsq:=hbq.size
   have HN2:=Lib.hid (show PtG Xq.w s q _ cc _∧Holds _ (l1+1) _ _ kt∧kt.ix.Nodup∧inC (l1+1) _ _ r∧(0≤l1+1∧l1+1≤16)∧k≤levT kt (l1+1)∧addB kt (l1+1)≤addB t l∧(∀ N2 t2,PutR _ N2 _ _ _ kt t2 r→∃ t',PutR N N2 l x y t t' r)∧(∀ j,PX q (some ⟨g,0,none⟩) _ j↔PX q (some ⟨g,0,none⟩) N j)∧Chg (gP (some ⟨g,0,none⟩)) w Xq.w from ⟨HN.out.1.keep hbq,HN.out.2.1,HN.out.2.2.1,HN.out.2.2.2.1,HN.out.2.2.2.2.1,HN.out.2.2.2.2.2.1,HN.out.2.2.2.2.2.2.1,HN.out.2.2.2.2.2.2.2.1,HN.out.2.2.2.2.2.2.2.2.1,HN.out.2.2.2.2.2.2.2.2.2.trans (Chg.of (X:=gP (some ⟨g,0,none⟩)) hbq) (fun j hj => .inl hj)⟩)
   have x0:Xq.w.cell? ⟨w.heap.size,0,none⟩=some (.int .i64 r.id):=(hbq.cell (p:=⟨w.heap.size,0,none⟩) (by show w.heap.size < _;omega)).trans vb0
   have x1:Xq.w.cell? ⟨w.heap.size,1,none⟩=some (.int .i64 r.x):=(hbq.cell (p:=⟨w.heap.size,1,none⟩) (by show w.heap.size < _;omega)).trans vb1
   have x2:Xq.w.cell? ⟨w.heap.size,2,none⟩=some (.int .i64 r.y):=(hbq.cell (p:=⟨w.heap.size,2,none⟩) (by show w.heap.size < _;omega)).trans vb2
   have x3:Xq.w.cell? ⟨w.heap.size,3,none⟩=some (.int .i64 r.label):=(hbq.cell (p:=⟨w.heap.size,3,none⟩) (by show w.heap.size < _;omega)).trans vb3
   have HX:=Lib.hid (And.intro x0 (And.intro x1 (And.intro x2 x3)))
   clear hbq x0 x1 x2 x3
   go_wp2_with fail
   go_roundw
   case rel=>exact ⟨_,kt,l1+1,_,_,by rw [List.length_set];exact hlen1,by omega,by omega,rfl,⟨by omega,HX.out.1,HX.out.2.1,HX.out.2.2.1,HX.out.2.2.2⟩,HN2.out⟩
   case measure=>simp [intOf];omega
  | leaf i rs=>
   obtain ⟨hP,hh,hnd,hr,hl,hk,hab,hwand,hPX,hc⟩:=hrel.out
   have hiN:i < N1.length:=hh.1
   have hiN':i < N.length:=hat1
   obtain ⟨p,hnode⟩:=hh.2.1
   have hr3:=hh.2.2.2
   obtain ⟨m,hm⟩:∃ m,rs.length=m:=⟨_,rfl⟩
   have hm100:m≤100000:=by rw [← hm];exact hrs1
   have d0:=hP.cells hiN (j:=0) (by decide) (v := .int .i64 l1) (by rw [hnode];rfl)
   have d7:=hP.cells hiN (j:=7) (by decide) (v := .int .i64 (rs.length:Nat)) (by rw [hnode];rfl)
   have d8:=hP.cells hiN (j:=8) (by decide) (v := .bool false) (by rw [hnode];rfl)
   have d9:=hP.cells hiN (j:=9) (by decide) (v := .slice p.1 rs.length p.2) (by rw [hnode];rfl)
   have f7:=hP.froz (i*10+7)
   have f9:=hP.froz (i*10+9)
   simp only [Nat.add_zero] at d0
   have hq0:=hP.c0
   have hset:=hP.set hiN (j:=7) (by decide) (v := .int .i64 ((rs.length:Nat)+1:Nat)) (n:=(⟨l1,x1,y1,noKids,rs.length+1,false,rs⟩,p)) (by rw [hnode];rfl) (by rw [hnode]) (by rw [hnode])
   have hndp:ndAt (N1.set i (⟨l1,x1,y1,noKids,rs.length+1,false,rs⟩,p)) i=(⟨l1,x1,y1,noKids,rs.length+1,false,rs⟩,p):=by rw [ndAt_set hiN,if_pos rfl]
   have hrow:=hset.rows i (by rw [List.length_set];exact hiN)
   rw [hndp] at hrow
   have hrowf:=hset.farR (i:=i) (by rw [List.length_set];exact hiN)
   rw [hndp] at hrowf
   have hrowC:=hset.disC i (by rw [List.length_set];exact hiN)
   rw [hndp] at hrowC
   have hcV:=hc.set (p:=⟨g,i*10+7,none⟩) (.inl rfl) (.int .i64 ((rs.length:Nat)+1:Nat))
   simp only at hrow hrowf hrowC
   rw [hm] at d7 d9 hset hrow hcV hndp hrowf
   rw [show ((m+1:Nat):Int)=(m:Int)+1 by omega] at hset hrow hcV hrowf
   have HH:=Lib.hid (show PtG (wr.setCell ⟨g,i*10+7,none⟩ (.int .i64 ((m:Int)+1))) s q (some ⟨g,0,none⟩) cc (N1.set i (⟨l1,x1,y1,noKids,m+1,false,rs⟩,p))∧(wr.setCell ⟨g,i*10+7,none⟩ (.int .i64 ((m:Int)+1))).ownsRow (q+1) 32 4 (.slice p.1 m p.2) m (rcF rs)∧Chg (gP (some ⟨g,0,none⟩)) w (wr.setCell ⟨g,i*10+7,none⟩ (.int .i64 ((m:Int)+1)))∧(∀ k,gP p.1 k→q < k∧k < (wr.setCell ⟨g,i*10+7,none⟩ (.int .i64 ((m:Int)+1))).heap.size)∧(∀ k,gP p.1 k→¬ gP (some ⟨g,0,none⟩) k) from ⟨hset,hrow,hcV,hrowf,hrowC⟩)
   have HM:=Lib.hid (show rs.length=m∧ndAt (N1.set i (⟨l1,x1,y1,noKids,m+1,false,rs⟩,p)) i=(⟨l1,x1,y1,noKids,m+1,false,rs⟩,p)∧ndAt N1 i=(⟨l1,x1,y1,noKids,rs.length,false,rs⟩,p) from ⟨hm,hndp,hnode⟩)
   have HR:=Lib.hid (show Holds N1 l1 x1 y1 (.leaf i rs)∧inC l1 x1 y1 r∧k≤levT (.leaf i rs) l1∧addB (.leaf i rs) l1≤addB t l∧(∀ N2 t2,PutR N1 N2 l1 x1 y1 (.leaf i rs) t2 r→∃ t',PutR N N2 l x y t t' r)∧(∀ j,PX q (some ⟨g,0,none⟩) N1 j↔PX q (some ⟨g,0,none⟩) N j) from ⟨hh,hr,hk,hab,hwand,hPX⟩)
   have hr3m:l1 < 16→m≤3:=by rw [← hm];exact hr3
   have hpw:∀ k,gP p.1 k→k < wr.heap.size:=fun k hk=>by have:=hrowf k hk;rw [World.size_setCell] at this;exact this.2
   have hpg:¬ gP p.1 g:=fun e=>hrowC g e rfl
   clear hrel hP1 hP hh hnd hr hk hab hwand hPX hc hnode hset hndp hrow hcV hr3 hm hrowf hrowC hrs1
   rw [show (QT.leaf i rs).at_=i from rfl]
   go_wp2_with fail
   have v1:(wr.setCell ⟨g,i*10+7,none⟩ (.int .i64 ((m:Int)+1))).cell? ⟨q,0,none⟩=some (.int .i64 3):=by go_simp
   have v9:(wr.setCell ⟨g,i*10+7,none⟩ (.int .i64 ((m:Int)+1))).cell? ⟨g,i*10+9,none⟩=some (.slice p.1 m p.2):=by go_simp
   have v0:(wr.setCell ⟨g,i*10+7,none⟩ (.int .i64 ((m:Int)+1))).cell? ⟨g,i*10,none⟩=some (.int .i64 l1):=by go_simp
   have vf9:(wr.setCell ⟨g,i*10+7,none⟩ (.int .i64 ((m:Int)+1))).frozen? ⟨g,i*10+9,none⟩=false:=by go_simp
   have vb0:(wr.setCell ⟨g,i*10+7,none⟩ (.int .i64 ((m:Int)+1))).cell? ⟨w.heap.size,0,none⟩=some (.int .i64 r.id):=by go_simp
   have vb1:(wr.setCell ⟨g,i*10+7,none⟩ (.int .i64 ((m:Int)+1))).cell? ⟨w.heap.size,1,none⟩=some (.int .i64 r.x):=by go_simp
   have vb2:(wr.setCell ⟨g,i*10+7,none⟩ (.int .i64 ((m:Int)+1))).cell? ⟨w.heap.size,2,none⟩=some (.int .i64 r.y):=by go_simp
   have vb3:(wr.setCell ⟨g,i*10+7,none⟩ (.int .i64 ((m:Int)+1))).cell? ⟨w.heap.size,3,none⟩=some (.int .i64 r.label):=by go_simp
   have vs:(wr.setCell ⟨g,i*10+7,none⟩ (.int .i64 ((m:Int)+1))).heap.size≤wr.heap.size:=by rw [World.size_setCell];exact Nat.le_refl _
   have vs2:wr.heap.size≤(wr.setCell ⟨g,i*10+7,none⟩ (.int .i64 ((m:Int)+1))).heap.size:=by rw [World.size_setCell];exact Nat.le_refl _
   generalize (wr.setCell ⟨g,i*10+7,none⟩ (.int .i64 ((m:Int)+1)))=V at v1 v9 v0 vf9 vb0 vb1 vb2 vb3 vs vs2 HH ⊢
   clear q1 b0 b1 b2 b3 d0 d7 d8 d9 f7 f9 hq0
   have hpl:∀ k,gP p.1 k→k < w.heap.size:=fun k hk=>(H.out.1.far k ((HR.out.2.2.2.2.2 k).1 (.inr (.inr ⟨i,hiN,by rw [HM.out.2.2];exact hk⟩)))).2
   have hnp:¬ gP p.1 w.heap.size:=fun e=>by have:=hpl _ e;omega
   have HS:(fun w'=>w'.cell? ⟨g,i*10+9,none⟩=some (.slice p.1 m p.2)∧w'.cell? ⟨w.heap.size,0,none⟩=some (.int .i64 r.id)∧w'.cell? ⟨w.heap.size,1,none⟩=some (.int .i64 r.x)∧w'.cell? ⟨w.heap.size,2,none⟩=some (.int .i64 r.y)∧w'.cell? ⟨w.heap.size,3,none⟩=some (.int .i64 r.label)) V.drew:=⟨by go_simp,by go_simp,by go_simp,by go_simp,by go_simp⟩
   refine wp_region_early (fun w'=>w'.cell? ⟨g,i*10+9,none⟩=some (.slice p.1 m p.2)∧w'.cell? ⟨w.heap.size,0,none⟩=some (.int .i64 r.id)∧w'.cell? ⟨w.heap.size,1,none⟩=some (.int .i64 r.x)∧w'.cell? ⟨w.heap.size,2,none⟩=some (.int .i64 r.y)∧w'.cell? ⟨w.heap.size,3,none⟩=some (.int .i64 r.label)) (fun j=>decide (j < 8)) (by kernel_rfl) HS (fun HS=>?_)
   (refine q9t (i:=0) rfl HS ?_;(try simp only [Act.put,q9x,q9y,q9z]))
   (refine q9t (i:=1) rfl HS ?_;(try simp only [Act.put,q9x,q9y,q9z]))
   (refine q9t (i:=2) rfl HS ?_;(try simp only [Act.put,q9x,q9y,q9z]))
   (refine q9t (i:=3) rfl HS ?_;(try simp only [Act.put,q9x,q9y,q9z]))
   (refine q9t (i:=4) rfl HS ?_;(try simp only [Act.put,q9x,q9y,q9z]))
   (refine q9t (i:=5) rfl HS ?_;(try simp only [Act.put,q9x,q9y,q9z]))
   refine wpAnyE_one (i:=6) rfl (by kernel_rfl) ?_
   go_wp2_with fail
   have HS:(fun w'=>w'.cell? ⟨g,i*10+9,none⟩=some (.slice p.1 m p.2)∧w'.cell? ⟨w.heap.size,0,none⟩=some (.int .i64 r.id)∧w'.cell? ⟨w.heap.size,1,none⟩=some (.int .i64 r.x)∧w'.cell? ⟨w.heap.size,2,none⟩=some (.int .i64 r.y)∧w'.cell? ⟨w.heap.size,3,none⟩=some (.int .i64 r.label)) (V.drew.alloc (.cells #[.int .i64 r.id, .int .i64 r.x, .int .i64 r.y, .int .i64 r.label] 32)):=⟨by go_simp,by go_simp,by go_simp,by go_simp,by go_simp⟩
   first|refine ⟨fun _=>HS,?_⟩|skip
   refine wpAnyE_one (i:=7) rfl (by kernel_rfl) ?_
   have hb2:Below V.heap.size V (V.drew.alloc (.cells #[.int .i64 r.id, .int .i64 r.x, .int .i64 r.y, .int .i64 r.label] 32)):=(Below.drew (Below.refl _ _)).alloc (by simp) _
   refine wpList_append_own_at _ rfl _ _ 53 rfl (q+1) 32 i0 (.agg #[.int .i64 0, .int .i64 0, .int .i64 0, .int .i64 0]) 4 32 Tryz.underlying53 hi0 hz0 hz1 hz2 rfl (by decide) (.slice p.1 m p.2) m _ (by rfl) (own_keep HH.out.2.1 hb2) ⟨V.heap.size,0,none⟩ 1 1 [.int .i64 r.id, .int .i64 r.x, .int .i64 r.y, .int .i64 r.label] (by rfl) (by rfl) (by
    have h9:=cells_four_new V.drew (.int .i64 r.id) (.int .i64 r.x) (.int .i64 r.y) (.int .i64 r.label) 32
    have e9:V.drew.heap.size=V.heap.size:=by simp
    rw [e9] at h9
    exact h9) (by intro u hu;simp at hu;rcases hu with rfl|rfl|rfl|rfl <;> rfl) (by unfold maxLen;omega) (by omega) (by simp;omega) ?_
   intro v3 w3 hown3 hgrow3 _ hat3
   obtain ⟨A3,k3,rfl⟩:=own_formN hown3
   have hc3:Chg (gP p.1) V w3:=(Chg.of (X:=gP p.1) hb2).trans (Chg.ofGrown (X:=gP p.1) hgrow3 (fun k hk=>by rw [gOf_own] at hk;exact hk)) (fun k hk => .inl hk)
   have hA3:∀ j,gP A3 j→gP p.1 j∨V.heap.size≤j:=fun j hj=>by
    rw [gOf_own,gOf_own] at hat3
    rcases hat3 with e|e
    ·exact .inl (e.symm.trans hj)
    ·refine .inr ?_
     unfold gP at hj
     rw [e] at hj
     injection hj with hj
     simp at hj
     omega
   have q3:∀ p9:Addr,p9.block < V.heap.size+1→¬ gP p.1 p9.block→w3.cell? p9=(V.drew.alloc (.cells #[.int .i64 r.id, .int .i64 r.x, .int .i64 r.y, .int .i64 r.label] 32)).cell? p9:=fun p9 hp hn=>hgrow3.cell_far p9 (by simp;omega) (fun e=>by rw [gOf_own] at e;exact hn e.symm)
   have HS3:(fun w'=>w'.cell? ⟨g,i*10+9,none⟩=some (.slice p.1 m p.2)∧w'.cell? ⟨w.heap.size,0,none⟩=some (.int .i64 r.id)∧w'.cell? ⟨w.heap.size,1,none⟩=some (.int .i64 r.x)∧w'.cell? ⟨w.heap.size,2,none⟩=some (.int .i64 r.y)∧w'.cell? ⟨w.heap.size,3,none⟩=some (.int .i64 r.label)) w3:=⟨(q3 ⟨g,i*10+9,none⟩ (by show g < _;omega) hpg).trans (by go_simp),(q3 ⟨w.heap.size,0,none⟩ (by show w.heap.size < _;omega) hnp).trans (by go_simp),(q3 ⟨w.heap.size,1,none⟩ (by show w.heap.size < _;omega) hnp).trans (by go_simp),(q3 ⟨w.heap.size,2,none⟩ (by show w.heap.size < _;omega) hnp).trans (by go_simp),(q3 ⟨w.heap.size,3,none⟩ (by show w.heap.size < _;omega) hnp).trans (by go_simp)⟩
   refine ⟨fun _=>HS3,?_⟩
   have hqp:¬ gP p.1 q:=fun e=>by have:=HH.out.2.2.2.1 q e;omega
   have z9:w3.frozen? ⟨g,i*10+9,none⟩=false:=(hc3.frozen (p:=⟨g,i*10+9,none⟩) (by show g < _;omega) hpg).trans vf9
   have x9:w3.cell? ⟨g,i*10+9,none⟩=some (.slice p.1 m p.2):=HS3.1
   have yq1:w3.cell? ⟨q,0,none⟩=some (.int .i64 3):=(hc3.cell (p:=⟨q,0,none⟩) (by show q < _;omega) hqp).trans v1
   have yl0:w3.cell? ⟨g,i*10,none⟩=some (.int .i64 l1):=(hc3.cell (p:=⟨g,i*10,none⟩) (by show g < _;omega) hpg).trans v0
   have yb0:w3.cell? ⟨w.heap.size,0,none⟩=some (.int .i64 r.id):=HS3.2.1
   have hrs9:rcF (rs ++ [r])=rcF rs ++ [.int .i64 r.id, .int .i64 r.x, .int .i64 r.y, .int .i64 r.label]:=by simp [rcF,rcC]
   rw [← hrs9] at hown3
   have hrow:=HH.out.1.row (i:=i) (by rw [List.length_set];exact hiN) (by rw [HM.out.2.1];exact hc3) hown3 (by simp [HM.out.1]) (by rw [HM.out.2.1];exact hA3) (n:=(⟨l1,x1,y1,noKids,m+1,false,rs ++ [r]⟩,(A3,k3))) (by rw [HM.out.2.1])
   rw [List.set_set] at hrow
   have hc5:Chg (PX q (some ⟨g,0,none⟩) N) w (w3.setCell ⟨g,i*10+9,none⟩ (.slice A3 (m+1) k3)):=((HH.out.2.2.1.mono (X':=PX q (some ⟨g,0,none⟩) N) (fun k hk => .inl (.inr (.inl hk)))).trans hc3 (fun k hk => .inl ((HR.out.2.2.2.2.2 k).1 (.inr (.inr ⟨i,hiN,by rw [HM.out.2.2];exact hk⟩))))).set (p:=⟨g,i*10+9,none⟩) (.inl (.inr (.inl rfl))) _
   have hPX5:∀ j,PX q (some ⟨g,0,none⟩) (N1.set i (⟨l1,x1,y1,noKids,m+1,false,rs ++ [r]⟩,(A3,k3))) j→PX q (some ⟨g,0,none⟩) N j∨w.heap.size≤j:=fun j hj=>by
    rcases PX_row hiN (A3:=A3) (B:=w.heap.size) (fun k hk=>by
     rw [HM.out.2.2]
     rcases hA3 k hk with h9|h9
     ·exact .inl h9
     ·exact .inr (by omega)) rfl j hj with h9|h9
    ·exact .inl ((HR.out.2.2.2.2.2 j).1 h9)
    ·exact .inr h9
   have hs5:(w3.setCell ⟨g,i*10+9,none⟩ (.slice A3 (m+1) k3)).heap.size≤w3.heap.size:=by rw [World.size_setCell];exact Nat.le_refl _
   have hs5':w3.heap.size≤(w3.setCell ⟨g,i*10+9,none⟩ (.slice A3 (m+1) k3)).heap.size:=by rw [World.size_setCell];exact Nat.le_refl _
   have hs3:=hc3.size
   have HE:=Lib.hid (And.intro hrow (And.intro hc5 hPX5))
   clear hown3 hgrow3 q3 HS HS3 hat3 hb2 hc3 hA3 hrow hc5 hPX5 hrs9 v1 v9 v0 vf9 vb0 vb1 vb2 vb3
   refine wpAnyE_rest (k:=8) rfl (by kernel_rfl) (fun j hj=>by simp;omega) ?_
   simp only [List.drop_succ_cons,List.drop_zero]
   go_wp2_with fail
   have u9:(w3.setCell ⟨g,i*10+9,none⟩ (.slice A3 (m+1) k3)).cell? ⟨g,i*10+9,none⟩=some (.slice A3 (m+1) k3):=by go_simp
   have u1:(w3.setCell ⟨g,i*10+9,none⟩ (.slice A3 (m+1) k3)).cell? ⟨q,0,none⟩=some (.int .i64 3):=by go_simp
   have u0:(w3.setCell ⟨g,i*10+9,none⟩ (.slice A3 (m+1) k3)).cell? ⟨g,i*10,none⟩=some (.int .i64 l1):=by go_simp
   generalize (w3.setCell ⟨g,i*10+9,none⟩ (.slice A3 (m+1) k3))=w5 at u9 u1 u0 hs5 hs5' HE ⊢
   clear z9 x9 yq1 yl0 yb0
   by_cases hbig:3 < m+1
   ·have hd1:decide ((3:Int) < (m:Int)+1)=true:=decide_eq_true (by omega)
    by_cases hl16:l1 < 16
    ·have hd2:decide (l1 < 16)=true:=decide_eq_true hl16
     (refine wp_region_later (w5.heap.size) (by kernel_rfl) (by kernel_rfl) (by go_size) ?_;(repeat (go_big_quiet_step (fail)));refine wpQuiet_nil ?_;intro Xq hlXq hmXq)
     have hbq:Below w5.heap.size w5 Xq.w:=q9l
     have hm3:m=3:=by have:=hr3m hl16;omega
     have hni:ndAt (N1.set i (⟨l1,x1,y1,noKids,m+1,false,rs ++ [r]⟩,(A3,k3))) i=(⟨l1,x1,y1,noKids,(rs ++ [r]).length,false,rs ++ [r]⟩,(A3,k3)):=by rw [ndAt_set hiN,if_pos rfl];simp [HM.out.1]
     have PP:=HP s q cc i (some ⟨g,0,none⟩) _ l1 x1 y1 (rs ++ [r]) _ Xq.w (HE.out.1.keep hbq) (by rw [List.length_set];have h9:=HR.out.2.2.1;unfold levT at h9;simp only [QT.isNode] at h9;simp at h9;omega) (by rw [List.length_set];exact hiN) hni (fun z hz=>by
      rcases List.mem_append.1 hz with hz|hz
      ·exact HR.out.1.2.2.1 z hz
      ·rw [List.mem_singleton.1 hz];exact HR.out.2.1) (by simp [HM.out.1,hm3]) hl.1 hl16 (by have h9:=HR.out.2.2.1;unfold levT at h9;simpa [QT.isNode] using h9)
     have HPP:=Lib.hid PP
     have HB:=Lib.hid hbq
     clear PP hbq hni
     go_wp2_with fail
     refine HPP.out.mono ?_
     rintro e w6 ⟨rfl,C',cc',N',t',hP6,hR6,hL6,hC6,hX6⟩
     have hput:=put_part (p:=(A3,k3)) HR.out.1 (by rw [HM.out.1];exact hR6)
     obtain ⟨t9,hput9⟩:=HR.out.2.2.2.2.1 _ _ hput
     have hsq:=HB.out.size
     have hcw:=HE.out.2.1.size
     have HFin:=Lib.hid (show Post (.returned (.tuple #[])) w6 by
      rw [← hPost]
      refine ⟨rfl,C',cc',N',t9,hP6,hput9,?_,(HE.out.2.1.trans (Chg.of (X:=fun _=>False) HB.out) (fun j hj=>hj.elim)).trans hC6 (fun j hj=>HE.out.2.2 j hj),fun j hj=>(hX6 j hj).elim (fun h9=>HE.out.2.2 j h9) (fun h9 => .inr (by omega))⟩
      have h9:=HR.out.2.2.2.1
      rw [List.length_set,hlen1] at hL6
      have e9:addB (.leaf i rs) l1=(4*(16 - l1)).toNat:=by
       unfold addB levT
       have h8:(QT.leaf i rs).rs.length=m:=HM.out.1
       rw [h8,if_neg (by omega)]
       simp [QT.isNode]
      omega)
     clear hP6 hR6 hL6 hC6 hX6 hput hput9
     go_wp2_with fail
     exact bodyPost_end (v := .tuple #[]) (by first|rfl|kernel_rfl) rfl HFin.out
    ·have hd2:decide (l1 < 16)=false:=decide_eq_false hl16
     have hput:=put_leaf (p:=(A3,k3)) HR.out.1 HR.out.2.1 (fun e=>absurd e hl16)
     rw [HM.out.1] at hput
     obtain ⟨t9,hput9⟩:=HR.out.2.2.2.2.1 _ _ hput
     (refine wp_region_later (w5.heap.size) (by kernel_rfl) (by kernel_rfl) (by go_size) ?_;(repeat (go_big_quiet_step (fail)));refine wpQuiet_nil ?_;intro Xq hlXq hmXq)
     have hbq:Below w5.heap.size w5 Xq.w:=q9l
     have hsq:=hbq.size
     have hcw:=HE.out.2.1.size
     have HFin:=Lib.hid (show Post (.returned (.tuple #[])) Xq.w by
      rw [← hPost]
      refine ⟨rfl,_,_,_,t9,HE.out.1.keep hbq,hput9,?_,HE.out.2.1.trans (Chg.of (X:=fun _=>False) hbq) (fun j hj=>hj.elim),HE.out.2.2⟩
      rw [List.length_set,hlen1]
      omega)
     clear hput hput9 hbq
     go_wp2_with fail
     exact bodyPost_end (v := .tuple #[]) (by first|rfl|kernel_rfl) rfl HFin.out
   ·have hd1:decide ((3:Int) < (m:Int)+1)=false:=decide_eq_false (by omega)
    have hput:=put_leaf (p:=(A3,k3)) HR.out.1 HR.out.2.1 (fun _=>by rw [HM.out.1];omega)
    rw [HM.out.1] at hput
    obtain ⟨t9,hput9⟩:=HR.out.2.2.2.2.1 _ _ hput
    (refine wp_region_later (w5.heap.size) (by kernel_rfl) (by kernel_rfl) (by go_size) ?_;(repeat (go_big_quiet_step (fail)));refine wpQuiet_nil ?_;intro Xq hlXq hmXq)
    have hbq:Below w5.heap.size w5 Xq.w:=q9l
    have hsq:=hbq.size
    have hcw:=HE.out.2.1.size
    have HFin:=Lib.hid (show Post (.returned (.tuple #[])) Xq.w by
     rw [← hPost]
     refine ⟨rfl,_,_,_,t9,HE.out.1.keep hbq,hput9,?_,HE.out.2.1.trans (Chg.of (X:=fun _=>False) hbq) (fun j hj=>hj.elim),HE.out.2.2⟩
     rw [List.length_set,hlen1]
     omega)
    clear hput hput9 hbq
    go_wp2_with fail
    exact bodyPost_end (v := .tuple #[]) (by first|rfl|kernel_rfl) rfl HFin.out
end Go.Proofs.YthlijfligikciaaGreat
namespace Go.Proofs.YthlijfligikciaaGreat
open Go.RowKit
set_option linter.unusedSimpArgs false
set_option linter.unusedVariables false
def childB (l x y i:Int):Bool:=crightB l x y && decide (l < 16∧0≤i∧i≤3)
def aboveB (l x y m:Int):Bool:=crightB l x y && decide (0≤m∧m≤l)
theorem child_iff {l x y i:Int}:childB l x y i=true↔crightB l x y=true∧l < 16∧0≤i∧i≤3:=by simp [childB]
theorem above_iff {l x y m:Int}:aboveB l x y m=true↔crightB l x y=true∧0≤m∧m≤l:=by simp [aboveB]
set_option maxHeartbeats 4000000 in
theorem child_any (l x y i:Int) (w:World):
  Calls Tryz.prog 105 #[.agg #[.int .i64 l, .int .i64 x, .int .i64 y], .int .i64 i] w fun e w'=>e = .returned (.tuple #[.agg #[.int .i64 (sel (childB l x y i) (l+1)), .int .i64 (sel (childB l x y i) (2*x+i % 2)), .int .i64 (sel (childB l x y i) (2*y+i / 2))], .bool (childB l x y i)])∧Below w.heap.size w w':=by
 have p1:=fun X:World=>cright_any l x y X
 rcases Bool.eq_false_or_eq_true (crightB l x y) with h|h
 ·obtain ⟨l0,l1,x0,y0,x1,y1⟩:=cright_iff.1 h
  have hp:=pw_le l1
  have g1:x≤65535:=by omega
  have g2:y≤65535:=by omega
  rw [h] at p1
  have P1:=Lib.hid p1
  have hc:childB l x y i=decide (l < 16∧0≤i∧i≤3):=by simp [childB,h]
  rw [hc]
  clear p1 h hc hp x1 y1
  have hcase:(l=16)∨(l < 16∧(l == 16)=false∧(i < 0∨(¬ i < 0∧3 < i)∨(0≤i∧i≤3))):=by
   by_cases e:l=16
   ·exact .inl e
   ·exact .inr ⟨by omega,by simp [e],by omega⟩
  rcases hcase with rfl|⟨c1,c2,c3|⟨c3,c4⟩|⟨c3,c4⟩⟩
  ·rw [show decide ((16:Int) < 16∧0≤i∧i≤3)=false by simp]
   go_enter Tryz.func105,Tryz.ntmps105
   go_wp2_with (first
    | (go_at_call 75;refine (P1.out _).mono ?_;rintro e w' ⟨rfl,hb⟩;obtain ⟨X1,rfl,hl1,hm1⟩:=later (w.heap.size+2) hb (by first|exact Nat.le_refl _|go_size);clear hb;(try simp only [q9A,q9B,q9D] at hm1)))
   refine bodyPost_ret (by simp only [results,Tryz.results105];go_simp;all_goals (first|rfl|simp [sel])) rfl ⟨rfl,?_⟩
   exact q9o
  ·rw [show decide (l < 16∧0≤i∧i≤3)=false by simp;omega]
   go_enter Tryz.func105,Tryz.ntmps105
   go_wp2_with (first
    | (go_at_call 75;refine (P1.out _).mono ?_;rintro e w' ⟨rfl,hb⟩;obtain ⟨X1,rfl,hl1,hm1⟩:=later (w.heap.size+2) hb (by first|exact Nat.le_refl _|go_size);clear hb;(try simp only [q9A,q9B,q9D] at hm1)))
   refine bodyPost_ret (by simp only [results,Tryz.results105];go_simp;all_goals (first|rfl|simp [sel])) rfl ⟨rfl,?_⟩
   exact q9o
  ·rw [show decide (l < 16∧0≤i∧i≤3)=false by simp;omega]
   go_enter Tryz.func105,Tryz.ntmps105
   go_wp2_with (first
    | (go_at_call 75;refine (P1.out _).mono ?_;rintro e w' ⟨rfl,hb⟩;obtain ⟨X1,rfl,hl1,hm1⟩:=later (w.heap.size+2) hb (by first|exact Nat.le_refl _|go_size);clear hb;(try simp only [q9A,q9B,q9D] at hm1)))
   refine bodyPost_ret (by simp only [results,Tryz.results105];go_simp;all_goals (first|rfl|simp [sel])) rfl ⟨rfl,?_⟩
   exact q9o
  ·rw [show decide (l < 16∧0≤i∧i≤3)=true by simp;omega]
   go_enter Tryz.func105,Tryz.ntmps105
   go_wp2_with (first
    | (go_at_call 75;refine (P1.out _).mono ?_;rintro e w' ⟨rfl,hb⟩;obtain ⟨X1,rfl,hl1,hm1⟩:=later (w.heap.size+2) hb (by first|exact Nat.le_refl _|go_size);clear hb;(try simp only [q9A,q9B,q9D] at hm1)))
   refine bodyPost_ret (by simp only [results,Tryz.results105];go_simp;all_goals (first|rfl|simp [sel])) rfl ⟨rfl,?_⟩
   exact q9o
 ·rw [h] at p1
  have P1:=Lib.hid p1
  rw [show childB l x y i=false by simp [childB,h]]
  clear p1 h
  go_enter Tryz.func105,Tryz.ntmps105
  go_wp2_with (first
   | (go_at_call 75;refine (P1.out _).mono ?_;rintro e w' ⟨rfl,hb⟩;obtain ⟨X1,rfl,hl1,hm1⟩:=later (w.heap.size+2) hb (by first|exact Nat.le_refl _|go_size);clear hb;(try simp only [q9A,q9B,q9D] at hm1)))
  refine bodyPost_ret (by simp only [results,Tryz.results105];go_simp;all_goals (first|rfl|simp [sel])) rfl ⟨rfl,?_⟩
  exact q9o
set_option maxHeartbeats 4000000 in
theorem above_any (l x y m:Int) (w:World):
  Calls Tryz.prog 132 #[.agg #[.int .i64 l, .int .i64 x, .int .i64 y], .int .i64 m] w fun e w'=>e = .returned (.tuple #[.agg #[.int .i64 (sel (aboveB l x y m) m), .int .i64 (sel (aboveB l x y m) (x / pw (l - m))), .int .i64 (sel (aboveB l x y m) (y / pw (l - m)))], .bool (aboveB l x y m)])∧Below w.heap.size w w':=by
 have p1:=fun X:World=>cright_any l x y X
 rcases Bool.eq_false_or_eq_true (crightB l x y) with h|h
 ·obtain ⟨l0,l1,x0,y0,x1,y1⟩:=cright_iff.1 h
  rw [h] at p1
  have P1:=Lib.hid p1
  have hc:aboveB l x y m=decide (0≤m∧m≤l):=by simp [aboveB,h]
  rw [hc]
  have p2:=fun X:World=>lvl_any m X
  have hcase:lvlB m=false∨(lvlB m=true∧0≤m∧m≤16∧(l < m∨m≤l)):=by
   rcases Bool.eq_false_or_eq_true (lvlB m) with h|h
   ·have:=lvl_iff.1 h
    exact .inr ⟨h,this.1,this.2,by omega⟩
   ·exact .inl h
  clear p1 h hc x1 y1
  rcases hcase with c1|⟨c1,c2,c3,c4|c4⟩
  ·rw [c1] at p2
   rw [show decide (0≤m∧m≤l)=false by
    rw [decide_eq_false_iff_not];intro hh
    rw [lvl_iff.2 ⟨hh.1,by omega⟩] at c1;cases c1]
   have P2:=Lib.hid p2
   clear p2 c1
   go_enter Tryz.func132,Tryz.ntmps132
   go_wp2_with (first
    | (go_at_call 75;refine (P1.out _).mono ?_;rintro e w' ⟨rfl,hb⟩;obtain ⟨X1,rfl,hl1,hm1⟩:=later (w.heap.size+2) hb (by first|exact Nat.le_refl _|go_size);clear hb;(try simp only [q9A,q9B,q9D] at hm1))
    | (go_at_call 73;refine (P2.out _).mono ?_;rintro e w' ⟨rfl,hb⟩;obtain ⟨X2,rfl,hl2,hm2⟩:=later (w.heap.size+2) hb (by first|exact Nat.le_refl _|go_size);clear hb;(try simp only [q9A,q9B,q9D] at hm2)))
   refine bodyPost_ret (by simp only [results,Tryz.results132];go_simp;all_goals (first|rfl|simp [sel])) rfl ⟨rfl,?_⟩
   exact q9o
  ·rw [c1] at p2
   rw [show decide (0≤m∧m≤l)=false by simp;omega]
   have P2:=Lib.hid p2
   clear p2 c1
   go_enter Tryz.func132,Tryz.ntmps132
   go_wp2_with (first
    | (go_at_call 75;refine (P1.out _).mono ?_;rintro e w' ⟨rfl,hb⟩;obtain ⟨X1,rfl,hl1,hm1⟩:=later (w.heap.size+2) hb (by first|exact Nat.le_refl _|go_size);clear hb;(try simp only [q9A,q9B,q9D] at hm1))
    | (go_at_call 73;refine (P2.out _).mono ?_;rintro e w' ⟨rfl,hb⟩;obtain ⟨X2,rfl,hl2,hm2⟩:=later (w.heap.size+2) hb (by first|exact Nat.le_refl _|go_size);clear hb;(try simp only [q9A,q9B,q9D] at hm2)))
   refine bodyPost_ret (by simp only [results,Tryz.results132];go_simp;all_goals (first|rfl|simp [sel])) rfl ⟨rfl,?_⟩
   exact q9o
  ·rw [c1] at p2
   rw [show decide (0≤m∧m≤l)=true by simp;omega]
   have P2:=Lib.hid p2
   clear p2 c1
   go_enter Tryz.func132,Tryz.ntmps132
   go_wp2_with (first
    | (go_at_call 75;refine (P1.out _).mono ?_;rintro e w' ⟨rfl,hb⟩;obtain ⟨X1,rfl,hl1,hm1⟩:=later (w.heap.size+2) hb (by first|exact Nat.le_refl _|go_size);clear hb;(try simp only [q9A,q9B,q9D] at hm1))
    | (go_at_call 73;refine (P2.out _).mono ?_;rintro e w' ⟨rfl,hb⟩;obtain ⟨X2,rfl,hl2,hm2⟩:=later (w.heap.size+2) hb (by first|exact Nat.le_refl _|go_size);clear hb;(try simp only [q9A,q9B,q9D] at hm2)))
   go_region
   all_goals
    go_wp2
    refine bodyPost_ret (by simp only [results,Tryz.results132];go_simp;all_goals (first|rfl|simp [sel,pw])) rfl ⟨rfl,?_⟩
    exact q9o
 ·rw [h] at p1
  have P1:=Lib.hid p1
  rw [show aboveB l x y m=false by simp [aboveB,h]]
  clear p1 h
  go_enter Tryz.func132,Tryz.ntmps132
  go_wp2_with (first
   | (go_at_call 75;refine (P1.out _).mono ?_;rintro e w' ⟨rfl,hb⟩;obtain ⟨X1,rfl,hl1,hm1⟩:=later (w.heap.size+2) hb (by first|exact Nat.le_refl _|go_size);clear hb;(try simp only [q9A,q9B,q9D] at hm1)))
  refine bodyPost_ret (by simp only [results,Tryz.results132];go_simp;all_goals (first|rfl|simp [sel])) rfl ⟨rfl,?_⟩
  exact q9o
end Go.Proofs.YthlijfligikciaaGreat
