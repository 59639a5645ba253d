/- A part of one proof: PqE PqF. No condition. -/
import Derived.Test.YthlijfligikciaaGreatY17
namespace Go.Proofs.YthlijfligikciaaGreat
open Go.RowKit Go.Maps
set_option linter.unusedSimpArgs false
set_option linter.unusedVariables false
set_option maxRecDepth 2000
theorem part_at (n:Nat):∀ k:Int,k=16 - n→PartOk k:=by
 induction n with
 | zero=>intro k hk s q cc i C N l x y rs p w _ _ _ _ _ _ _ h1 h2;exact absurd h1 (by omega)
 | succ n ih=>intro k hk;exact part_down k (ih (k+1) (by omega))
theorem part_all:PartOk 0:=part_at 16 0 (by omega)
def recV (r:Rc):Value := .agg #[.int .i64 r.id, .int .i64 r.x, .int .i64 r.y, .int .i64 r.label]
def recS (R:List Rc) (k:Int):Option Value:=(R.find? (fun r=>r.id == k)).map recV
theorem recS_new {R:List Rc} {r:Rc} (h:recS R r.id=none):recS (R ++ [r])=fun x=>if x=r.id then some (recV r) else recS R x:=by
 funext x
 unfold recS at h ⊢
 rw [List.find?_append]
 by_cases e:x=r.id
 ·subst e
  have h':R.find? (fun z=>z.id == r.id)=none:=by cases h9:R.find? (fun z=>z.id == r.id) with
   | none=>rfl
   | some z=>rw [h9] at h;cases h
  simp [h']
 ·have hb:(r.id == x)=false:=by simp;exact fun e'=>e e'.symm
  simp [e,hb]
structure PtI (w:World) (s q:Nat) (C:Option Addr) (cc:Nat) (N:List NdP) (t:QT) (R:List Rc):Prop where
 g:PtG w s q C cc N
 tr:Holds N 0 0 0 t
 nod:t.ix.Nodup
 at0:t.at_=0
 recs:t.rs.Perm R
 len:N.length≤1+64*R.length
 m:M1 w s R.length (recS R)
 ids:(R.map (·.id)).Nodup
 wf:∀ r ∈ R,wf64 r.id
section
variable {X:Nat→Prop} {w w':World} {s q cc:Nat} {C:Option Addr} {N:List NdP} {t:QT} {R:List Rc}
theorem PtI.chg (h:PtI w s q C cc N t R) (hc:Chg X w w') (hX:∀ k,PX q C N k→¬ X k) (hs:¬ X s):PtI w' s q C cc N t R:=⟨h.g.chg hc hX,h.tr,h.nod,h.at0,h.recs,h.len,h.m.chg hc hs,h.ids,h.wf⟩
theorem PtI.keep (h:PtI w s q C cc N t R) (hb:Below w.heap.size w w'):PtI w' s q C cc N t R:=h.chg (X:=fun _=>False) (Chg.of hb) (fun _ _ e=>e) (fun e=>e)
theorem PtI.pos (h:PtI w s q C cc N t R):0 < N.length:=by have:=holds_ndlt h.tr;rw [h.at0] at this;exact this
end
def insR (R:List Rc) (r:Rc):List Rc:=if fitsB r.x r.y=true∧recS R r.id=none then R ++ [r] else R
theorem recS_none {R:List Rc} {k:Int} (h:recS R k=none):∀ r ∈ R,r.id≠k:=fun r hr e=>by
 unfold recS at h
 cases h9:R.find? (fun z=>z.id == k) with
 | none=>have:=List.find?_eq_none.1 h9 r hr;simp [e] at this
 | some z=>rw [h9] at h;cases h
theorem recS_some {R:List Rc} {k:Int} {v:Value} (h:recS R k=some v):∃ r ∈ R,r.id=k∧v=recV r:=by
 unfold recS at h
 cases h9:R.find? (fun z=>z.id == k) with
 | none=>rw [h9] at h;cases h
 | some z=>
  rw [h9] at h
  injection h with h
  exact ⟨z,List.mem_of_find?_eq_some h9,by simpa using List.find?_some h9,h.symm⟩
set_option maxHeartbeats 8000000 in
theorem ptNew_all (w:World):Calls Tryz.prog 18 #[.int .i64 3] w fun e w'=>∃ C cc,e = .returned (.tuple #[.pointer (some ⟨w.heap.size+1,0,none⟩), .int .i64 0])∧PtI w' w.heap.size (w.heap.size+1) C cc [(⟨0,0,0,noKids,0,false,[]⟩,(none,0))] (.leaf 0 []) []∧Below w.heap.size w w':=by
 have hmm:=@run_makeMap Tryz.prog
 go_enter Tryz.func18,Tryz.ntmps18
 go_wp2_with fail
 go_at_call 54
 have hP0:PtG ((w.alloc (.map #[] 0)).alloc (.cells #[.int .i64 3, .slice none 0 0, .slice none 0 0, .map (some w.heap.size)] 114)) w.heap.size (w.heap.size+1) none 0 []:=⟨by simp,by omega,by go_simp,by go_simp,by go_simp,by go_simp,by go_simp,World.ownsRow_nil _ _ _ _,fun i hi=>absurd hi (by simp),fun i j hi=>absurd hi (by simp),fun i hi=>absurd hi (by simp)⟩
 have hmap:((w.alloc (.map #[] 0)).alloc (.cells #[.int .i64 3, .slice none 0 0, .slice none 0 0, .map (some w.heap.size)] 114)).heap[w.heap.size]? = some (.map #[] 0):=by
  have h9:Below (w.alloc (.map #[] 0)).heap.size (w.alloc (.map #[] 0)) ((w.alloc (.map #[] 0)).alloc (.cells #[.int .i64 3, .slice none 0 0, .slice none 0 0, .map (some w.heap.size)] 114)):=(Below.refl _ _).alloc (Nat.le_refl _) _
  rw [h9.block _ (by simp)]
  exact heap_alloc_new w _
 have hbw:Below w.heap.size w ((w.alloc (.map #[] 0)).alloc (.cells #[.int .i64 3, .slice none 0 0, .slice none 0 0, .map (some w.heap.size)] 114)):=((Below.refl _ _).alloc (Nat.le_refl _) _).alloc (by simp) _
 refine (pleaf_any w.heap.size (w.heap.size+1) 0 none [] 0 0 0 _ hP0 (by simp)).mono ?_
 rintro e w6 ⟨rfl,C,cc,hP,hc,hC⟩
 have hbe:=hc.below (B:=w.heap.size+1) (fun k hk=>hk.elim (fun e=>by omega) (fun e=>by cases e)) (by simp)
 have HE:=Lib.hid (show PtI w6 w.heap.size (w.heap.size+1) C cc [(⟨0,0,0,noKids,0,false,[]⟩,(none,0))] (.leaf 0 []) []∧Below w.heap.size w w6 from ⟨⟨hP,⟨by decide,⟨_,rfl⟩,(fun r hr=>by cases hr),fun _=>by decide⟩,by simp [QT.ix],rfl,List.Perm.refl _,by decide,(m1_of hmap).same (hbe.block _ (by omega)),by simp,fun r hr=>by cases hr⟩,hbw.trans (hbe.mono (by omega))⟩)
 clear hP hc hC hbe hP0 hmap hbw
 go_wp2_with fail
 refine bodyPost_ret (by simp only [results,Tryz.results18];go_simp;all_goals (first|rfl|simp [sel])) rfl ⟨C,cc,rfl,HE.out⟩
theorem grid_in {r:Rc} (h:fitsB r.x r.y=true):inC 0 0 0 r:=by
 have:=fits_iff.1 h
 have e:sd 0=65536:=by decide
 exact ⟨h,by rw [e];omega,by rw [e];omega⟩
set_option maxHeartbeats 16000000 in
theorem pinsert_any (s q cc:Nat) (C:Option Addr) (N:List NdP) (t:QT) (R:List Rc) (r:Rc) (w:World) (h:PtI w s q C cc N t R) (hR:R.length≤10000) (hid:wf64 r.id):
  Calls Tryz.prog 21 #[.pointer (some ⟨q,0,none⟩), .agg #[.int .i64 r.id, .int .i64 r.x, .int .i64 r.y, .int .i64 r.label]] w fun e w'=>(∃ z,e = .returned (.int .i64 z))∧∃ C' cc' N' t',PtI w' s q C' cc' N' t' (insR R r)∧Chg (fun j=>j=s∨PX q C N j) w w'∧∀ j,PX q C' N' j→PX q C N j∨w.heap.size≤j:=by
 have PM:=Lib.hid (fun (Y:World) (hY:Below w.heap.size w Y)=>pmade_any q N.length cc C Y ((hY.cell (p:=⟨q,1,none⟩) h.g.lt).trans h.g.c1) h.pos)
 have pf:=fun (Y:World)=>fits_any r.x r.y Y
 have H:=Lib.hid h
 have hql:=h.g.lt
 have hls:=h.g.ls
 have c3:=h.g.c3
 have hlk:=fun (W:World) (hW:W.heap[s]? = w.heap[s]?)=>(h.m.same hW).lookOk (mt:=110) Tryz.underlying110 (zero_rec W) hid
 obtain ⟨om,hom⟩:∃ o,w.heap[s]? = o:=⟨_,rfl⟩
 rw [hom] at hlk
 clear h
 cases hf:fitsB r.x r.y with
 | false=>
  rw [hf] at pf
  have PF:=Lib.hid pf
  have hi:insR R r=R:=by unfold insR;rw [if_neg (fun e=>by rw [hf] at e;cases e.1)]
  rw [hi]
  clear pf hf hlk
  go_enter Tryz.func21,Tryz.ntmps21
  go_wp2_with (first
   | (go_at_call 58;refine (PM.out _ q9l).mono ?_;rintro e w' ⟨rfl,hb⟩;obtain ⟨X1,rfl,hl1,hm1⟩:=later _ hb (Nat.le_refl _);clear hb;(try simp only [q9A,q9B,q9D] at hm1 hl1))
   | (go_at_call 10;refine (PF.out _).mono ?_;rintro e w' ⟨rfl,hb⟩;obtain ⟨X2,rfl,hl2,hm2⟩:=later _ hb (Nat.le_refl _);clear hb;(try simp only [q9A,q9B,q9D] at hm2 hl2)))
  have hb2:Below w.heap.size w X2.w:=q9l
  have HE:=Lib.hid hb2
  go_ret
  exact ⟨⟨_,rfl⟩,C,cc,N,t,H.out.keep HE.out,Chg.of HE.out,fun j hj => .inl hj⟩
 | true=>
  rw [hf] at pf
  have PF:=Lib.hid pf
  cases hS:recS R r.id with
  | some v=>
   obtain ⟨r',hr',hid',rfl⟩:=recS_some hS
   have hi:insR R r=R:=by unfold insR;rw [if_neg (fun e=>by rw [hS] at e;cases e.2)]
   rw [hi]
   rw [hS] at hlk
   simp only [Option.getD_some,Option.isSome_some,recV,hid'] at hlk
   clear pf hf hS
   go_enter Tryz.func21,Tryz.ntmps21
   go_wp2_with (first
    | (go_at_call 58;refine (PM.out _ q9l).mono ?_;rintro e w' ⟨rfl,hb⟩;obtain ⟨X1,rfl,hl1,hm1⟩:=later _ hb (Nat.le_refl _);clear hb;(try simp only [q9A,q9B,q9D] at hm1 hl1))
    | (go_at_call 10;refine (PF.out _).mono ?_;rintro e w' ⟨rfl,hb⟩;obtain ⟨X2,rfl,hl2,hm2⟩:=later _ hb (Nat.le_refl _);clear hb;(try simp only [q9A,q9B,q9D] at hm2 hl2)))
   have hb2:Below w.heap.size w X2.w:=q9l
   have hs2:w.heap.size+1≤X2.w.heap.size:=by go_size
   have HS:(fun w'=>w'.heap[s]? = om∧w'.cell? ⟨q,3,none⟩=some (.map (some s))∧w'.cell? ⟨w.heap.size,0,none⟩=some (.int .i64 r.id)) X2.w.drew:=⟨(hb2.drew.block _ (by omega)).trans hom,by go_simp,by go_simp⟩
   have HS1:(fun w'=>w'.heap[s]? = om∧w'.cell? ⟨q,3,none⟩=some (.map (some s))∧w'.cell? ⟨w.heap.size,0,none⟩=some (.int .i64 r.id)) (X2.w.drew.alloc (.cells #[.int .i64 r.id, .int .i64 r'.x, .int .i64 r'.y, .int .i64 r'.label] 32)):=⟨((hb2.drew.alloc (by simp;omega) _).block _ (by omega)).trans hom,by go_simp,by go_simp⟩
   have HS0:(fun w'=>w'.heap[s]? = om∧w'.cell? ⟨q,3,none⟩=some (.map (some s))∧w'.cell? ⟨w.heap.size,0,none⟩=some (.int .i64 r.id)) (X2.w.drew.alloc (.cells #[.int .i64 0, .int .i64 0, .int .i64 0, .int .i64 0] 32)):=⟨((hb2.drew.alloc (by simp;omega) _).block _ (by omega)).trans hom,by go_simp,by go_simp⟩
   refine wp_region_early (fun w'=>w'.heap[s]? = om∧w'.cell? ⟨q,3,none⟩=some (.map (some s))∧w'.cell? ⟨w.heap.size,0,none⟩=some (.int .i64 r.id)) (fun _=>true) (by kernel_rfl) HS (fun HS=>?_)
   (refine q9t (i:=0) rfl HS ?_;(try simp only [Act.put,q9x,q9y,q9z]))
   (refine q9t (i:=1) rfl HS ?_;(try simp only [Act.put,q9x,q9y,q9z]))
   (refine q9t (i:=2) rfl HS ?_;(try simp only [Act.put,q9x,q9y,q9z]))
   (refine q9t (i:=3) rfl HS ?_;(try simp only [Act.put,q9x,q9y,q9z]))
   (refine q9t (i:=4) rfl HS ?_;(try simp only [Act.put,q9x,q9y,q9z]))
   (refine q9t (i:=5) rfl HS ?_;(try simp only [Act.put,q9x,q9y,q9z]))
   (refine q9t (i:=6) rfl HS ?_;(try simp only [Act.put,q9x,q9y,q9z]))
   (refine q9t (i:=7) rfl HS ?_;(try simp only [Act.put,q9x,q9y,q9z]))
   (refine q9t (i:=8) rfl HS ?_;(try simp only [Act.put,q9x,q9y,q9z]))
   (refine q9t (i:=9) rfl HS ?_;(try simp only [Act.put,q9x,q9y,q9z]))
   refine wpAnyE_one (i:=10) rfl (by kernel_rfl) ?_
   go_wp2_with fail
   refine ⟨HS0.1,?_⟩
   refine wpAnyE_one (i:=11) rfl (by kernel_rfl) ?_
   go_wp2_with fail
   first|refine ⟨fun _=>HS1,?_⟩|refine ⟨HS1.1,?_⟩|refine ⟨fun _=>HS1.1,?_⟩
   refine wpAnyE_one (i:=12) rfl (by kernel_rfl) ?_
   go_wp2_with fail
   first|refine ⟨fun _=>HS1,?_⟩|refine ⟨HS1.1,?_⟩|refine ⟨fun _=>HS1.1,?_⟩
   refine ⟨by kernel_rfl,?_⟩
   have HO:=Lib.hid hom
   clear hom hlk HS HS1 HS0
   have hb9:Below w.heap.size w (X2.w.drew.alloc (.cells #[.int .i64 r.id, .int .i64 r'.x, .int .i64 r'.y, .int .i64 r'.label] 32)):=hb2.drew.alloc (by simp;omega) _
   have HE:=Lib.hid hb9
   clear hb9
   go_wp2_with fail
   go_ret
   exact ⟨⟨_,rfl⟩,C,cc,N,t,H.out.keep HE.out,Chg.of HE.out,fun j hj => .inl hj⟩
  | none=>
   have hi:insR R r=R ++ [r]:=by unfold insR;rw [if_pos ⟨hf,hS⟩]
   rw [hi]
   have hin:=grid_in hf
   have hnew:=recS_new hS
   have hnone:=recS_none hS
   rw [hS] at hlk
   simp only [Option.getD_none,Option.isSome_none] at hlk
   have HW:=Lib.hid (And.intro hin (And.intro hnew hnone))
   clear pf hf hS hi hin hnew hnone
   go_enter Tryz.func21,Tryz.ntmps21
   go_wp2_with (first
    | (go_at_call 58;refine (PM.out _ q9l).mono ?_;rintro e w' ⟨rfl,hb⟩;obtain ⟨X1,rfl,hl1,hm1⟩:=later _ hb (Nat.le_refl _);clear hb;(try simp only [q9A,q9B,q9D] at hm1 hl1))
    | (go_at_call 10;refine (PF.out _).mono ?_;rintro e w' ⟨rfl,hb⟩;obtain ⟨X2,rfl,hl2,hm2⟩:=later _ hb (Nat.le_refl _);clear hb;(try simp only [q9A,q9B,q9D] at hm2 hl2)))
   have hb2:Below w.heap.size w X2.w:=q9l
   have hs2:w.heap.size+1≤X2.w.heap.size:=by go_size
   have HS:(fun w'=>w'.heap[s]? = om∧w'.cell? ⟨q,3,none⟩=some (.map (some s))∧w'.cell? ⟨w.heap.size,0,none⟩=some (.int .i64 r.id)) X2.w.drew:=⟨(hb2.drew.block _ (by omega)).trans hom,by go_simp,by go_simp⟩
   have HS1:(fun w'=>w'.heap[s]? = om∧w'.cell? ⟨q,3,none⟩=some (.map (some s))∧w'.cell? ⟨w.heap.size,0,none⟩=some (.int .i64 r.id)) (X2.w.drew.alloc (.cells #[.int .i64 0, .int .i64 0, .int .i64 0, .int .i64 0] 32)):=⟨((hb2.drew.alloc (by simp;omega) _).block _ (by omega)).trans hom,by go_simp,by go_simp⟩
   have HS0:(fun w'=>w'.heap[s]? = om∧w'.cell? ⟨q,3,none⟩=some (.map (some s))∧w'.cell? ⟨w.heap.size,0,none⟩=some (.int .i64 r.id)) (X2.w.drew.alloc (.cells #[.int .i64 0, .int .i64 0, .int .i64 0, .int .i64 0] 32)):=⟨((hb2.drew.alloc (by simp;omega) _).block _ (by omega)).trans hom,by go_simp,by go_simp⟩
   refine wp_region_early (fun w'=>w'.heap[s]? = om∧w'.cell? ⟨q,3,none⟩=some (.map (some s))∧w'.cell? ⟨w.heap.size,0,none⟩=some (.int .i64 r.id)) (fun _=>true) (by kernel_rfl) HS (fun HS=>?_)
   (refine q9t (i:=0) rfl HS ?_;(try simp only [Act.put,q9x,q9y,q9z]))
   (refine q9t (i:=1) rfl HS ?_;(try simp only [Act.put,q9x,q9y,q9z]))
   (refine q9t (i:=2) rfl HS ?_;(try simp only [Act.put,q9x,q9y,q9z]))
   (refine q9t (i:=3) rfl HS ?_;(try simp only [Act.put,q9x,q9y,q9z]))
   (refine q9t (i:=4) rfl HS ?_;(try simp only [Act.put,q9x,q9y,q9z]))
   (refine q9t (i:=5) rfl HS ?_;(try simp only [Act.put,q9x,q9y,q9z]))
   (refine q9t (i:=6) rfl HS ?_;(try simp only [Act.put,q9x,q9y,q9z]))
   (refine q9t (i:=7) rfl HS ?_;(try simp only [Act.put,q9x,q9y,q9z]))
   (refine q9t (i:=8) rfl HS ?_;(try simp only [Act.put,q9x,q9y,q9z]))
   (refine q9t (i:=9) rfl HS ?_;(try simp only [Act.put,q9x,q9y,q9z]))
   refine wpAnyE_one (i:=10) rfl (by kernel_rfl) ?_
   go_wp2_with fail
   refine ⟨HS0.1,?_⟩
   refine wpAnyE_one (i:=11) rfl (by kernel_rfl) ?_
   go_wp2_with fail
   first|refine ⟨fun _=>HS1,?_⟩|refine ⟨HS1.1,?_⟩|refine ⟨fun _=>HS1.1,?_⟩
   refine wpAnyE_one (i:=12) rfl (by kernel_rfl) ?_
   go_wp2_with fail
   first|refine ⟨fun _=>HS1,?_⟩|refine ⟨HS1.1,?_⟩|refine ⟨fun _=>HS1.1,?_⟩
   refine ⟨by kernel_rfl,?_⟩
   have HO:=Lib.hid hom
   clear hom hlk HS HS1 HS0
   go_wp2_with fail
   (refine wp_region_later_tail 7 (w.heap.size+1) (by kernel_rfl) (by kernel_rfl) (by go_size) ?_;simp only [List.take_succ_cons,List.take_zero,List.drop_succ_cons,List.drop_zero];(repeat (go_big_quiet_step (fail)));refine wpQuiet_nil ?_;intro Xq hlXq hmXq)
   have hbq:Below w.heap.size w Xq.w:=q9l
   obtain ⟨w9,hput,hM9,hg9⟩:=(H.out.m.same (hbq.block _ (by omega))).put (by omega) (mt:=110) Tryz.underlying110 hid (.agg #[.int .i64 r.id, .int .i64 r.x, .int .i64 r.y, .int .i64 r.label])
   have hc9:Chg (fun j=>j=s) w w9:=(Chg.of (X:=fun j=>j=s) hbq).trans (Chg.ofGrown (X:=fun j=>j=s) hg9 (fun k hk=>by injection hk with hk;exact hk.symm)) (fun k hk => .inl hk)
   have hs9:=hg9.size
   have hsq:w.heap.size+1≤Xq.w.heap.size:=hlXq
   have hb9:∀ i,w9.cell? ⟨w.heap.size,i,none⟩=Xq.w.cell? ⟨w.heap.size,i,none⟩:=fun i=>hg9.cell_far ⟨w.heap.size,i,none⟩ (by show w.heap.size < _;omega) (fun e=>by injection e with e;have e':w.heap.size=s:=e;omega)
   have b0:w9.cell? ⟨w.heap.size,0,none⟩=some (.int .i64 r.id):=(hb9 0).trans (by go_simp)
   have b1:w9.cell? ⟨w.heap.size,1,none⟩=some (.int .i64 r.x):=(hb9 1).trans (by go_simp)
   have b2:w9.cell? ⟨w.heap.size,2,none⟩=some (.int .i64 r.y):=(hb9 2).trans (by go_simp)
   have b3:w9.cell? ⟨w.heap.size,3,none⟩=some (.int .i64 r.label):=(hb9 3).trans (by go_simp)
   rw [show (fun x=>if x=r.id then some (Value.agg #[.int .i64 r.id, .int .i64 r.x, .int .i64 r.y, .int .i64 r.label]) else recS R x)=recS (R ++ [r]) from HW.out.2.1.symm] at hM9
   have hsX:¬ PX q C N s:=fun e=>by have:=H.out.g.far s e;omega
   have HP:=Lib.hid (show PtG w9 s q C cc N∧M1 w9 s (R.length+1) (recS (R ++ [r]))∧Chg (fun j=>j=s) w w9 from ⟨H.out.g.chg hc9 (fun k hk e=>hsX (by rw [← show k=s from e];exact hk)),hM9,hc9⟩)
   have hsw9:=hc9.size
   clear hM9 hg9 hc9 hb9
   go_wp2_with fail
   go_at_call 59
   have hlen:=H.out.len
   have hrsl:=H.out.recs.length_eq
   have pp:=pput_any 0 part_all s q cc C N 0 0 0 t r _ HP.out.1 (by omega) H.out.tr H.out.nod HW.out.1 ⟨by omega,by omega⟩ (by unfold levT;split <;> omega) (by omega)
   rw [H.out.at0] at pp
   refine pp.mono ?_
   rintro e w5 ⟨rfl,C',cc',N',t',hP,hR9,hL,hc,hG⟩
   have HE:=Lib.hid (show PtI w5 s q C' cc' N' t' (R ++ [r])∧Chg (fun j=>j=s∨PX q C N j) w w5∧∀ j,PX q C' N' j→PX q C N j∨w.heap.size≤j from ⟨⟨hP,hR9.holds,hR9.nod,hR9.root.trans H.out.at0,hR9.recs.trans ((List.Perm.cons r H.out.recs).trans (List.perm_append_singleton r R).symm),by
     have h9:addB t 0≤64:=by unfold addB levT;split <;> (try split) <;> omega
     rw [List.length_append,List.length_singleton]
     omega,by rw [List.length_append,List.length_singleton];exact HP.out.2.1.chg hc hsX,by
     rw [List.map_append,List.nodup_append]
     refine ⟨H.out.ids,by simp,fun a ha b hb e=>?_⟩
     obtain ⟨z,hz,rfl⟩:=List.mem_map.1 ha
     exact HW.out.2.2 z hz (by rw [e];simpa using hb),fun z hz=>by
     rcases List.mem_append.1 hz with hz|hz
     ·exact H.out.wf z hz
     ·rw [List.mem_singleton.1 hz];exact hid⟩,(HP.out.2.2.mono (X':=fun j=>j=s∨PX q C N j) (fun k hk => .inl (.inl hk))).trans hc (fun k hk => .inl (.inr hk)),fun j hj=>(hG j hj).elim .inl (fun h9 => .inr (by omega))⟩)
   clear hP hR9 hL hc hG pp
   go_wp2_with fail
   go_ret
   exact ⟨⟨_,rfl⟩,C',cc',N',t',HE.out⟩
theorem Chg.ofB {B:Nat} {w w':World} (h:Below B w w'):Chg (fun j=>B≤j) w w':=⟨h.os,h.tape,h.output,h.size,fun k hk hx=>h.block k (by have:¬ B≤k:=hx;omega)⟩
structure OutR (w:World) (o:Nat) (A:Option Addr) (cap:Nat) (L:List Rc):Prop where
 c0:w.cell? ⟨o,0,none⟩=some (.slice A L.length cap)
 f0:w.frozen? ⟨o,0,none⟩=false
 own:w.ownsRow (o+1) 32 4 (.slice A L.length cap) L.length (rcF L)
def OX (o:Nat) (A:Option Addr):Nat→Prop:=fun j=>j=o∨gP A j
section
variable {X:Nat→Prop} {w w' w1 w2:World} {o cap c1:Nat} {A A1:Option Addr} {L L1 L2:List Rc}
theorem OutR.lt (h:OutR w o A cap L):o < w.heap.size:=cell_lt h.c0
theorem OutR.far (h:OutR w o A cap L):∀ j,OX o A j→o≤j∧j < w.heap.size:=fun j hj=>by
 rcases hj with rfl|hj
 ·exact ⟨Nat.le_refl _,h.lt⟩
 ·have:=h.own.lt j (by rw [gOf_own];exact hj);omega
theorem OutR.chg (h:OutR w o A cap L) (hc:Chg X w w') (hX:∀ j,OX o A j→¬ X j):OutR w' o A cap L:=
 ⟨(hc.cell (p:=⟨o,0,none⟩) h.lt (hX o (.inl rfl))).trans h.c0,(hc.frozen (p:=⟨o,0,none⟩) h.lt (hX o (.inl rfl))).trans h.f0,own_chg h.own hc (fun k hk=>hX k (.inr (by rw [gOf_own] at hk;exact hk)))⟩
theorem OutR.keep (h:OutR w o A cap L) (hb:Below w.heap.size w w'):OutR w' o A cap L:=h.chg (X:=fun _=>False) (Chg.of hb) (fun _ _ e=>e)
def Told (w w':World) (o:Nat) (A:Option Addr) (L:List Rc):Prop:=∃ A' cap',OutR w' o A' cap' L∧Chg (OX o A) w w'∧∀ j,gP A' j→gP A j∨w.heap.size≤j
theorem OutR.told (h:OutR w o A cap L) (hb:Below w.heap.size w w'):Told w w' o A L:=⟨A,cap,h.keep hb,Chg.of hb,fun j hj => .inl hj⟩
theorem Told.step (hc:Chg (OX o A) w w1) (hg:∀ j,gP A1 j→gP A j∨w.heap.size≤j) (h2:Told w1 w2 o A1 L2):Told w w2 o A L2:=by
 obtain ⟨A',cap',h,hc2,hg2⟩:=h2
 have hs:=hc.size
 refine ⟨A',cap',h,hc.trans hc2 (fun j hj=>?_),fun j hj=>?_⟩
 ·rcases hj with hj|hj
  ·exact .inl (.inl hj)
  ·exact (hg j hj).elim (fun e => .inl (.inr e)) .inr
 ·rcases hg2 j hj with e|e
  ·exact hg j e
  ·exact .inr (by omega)
theorem Told.step_below (hb:Below w.heap.size w w1) (h2:Told w1 w2 o A L2):Told w w2 o A L2:=Told.step (Chg.of hb) (fun j hj => .inl hj) h2
theorem Told.size (h:Told w w1 o A L1):w.heap.size≤w1.heap.size:=by obtain ⟨_,_,_,h,_⟩:=h;exact h.size
end
theorem PtG.keepB {w w':World} {s q cc o:Nat} {C:Option Addr} {N:List NdP} (h:PtG w s q C cc N) (ho:∀ j,PX q C N j→j < o) (hb:Below o w w'):PtG w' s q C cc N:=h.chg (Chg.ofB hb) (fun k hk e=>by have:=ho k hk;have e':o≤k:=e;omega)
theorem rcF_app (L:List Rc) (r:Rc):rcF (L ++ [r])=rcF L ++ [.int .i64 r.id, .int .i64 r.x, .int .i64 r.y, .int .i64 r.label]:=by simp [rcF,rcC]
set_option maxHeartbeats 16000000 in
theorem out_any (o cap:Nat) (A:Option Addr) (L:List Rc) (r:Rc) (w:World) (h:OutR w o A cap L) (hL:L.length≤1000000):
  Calls Tryz.prog 84 #[.agg #[.int .i64 r.id, .int .i64 r.x, .int .i64 r.y, .int .i64 r.label], .pointer (some ⟨o,0,none⟩)] w fun e w'=>e = .returned (.tuple #[])∧Told w w' o A (L ++ [r]):=by
 obtain ⟨i0,hi,hz0,hz1,hz2⟩:=info_parts (show (Tryz.prog.info? 32).map (fun i=>(i.zero,i.size,i.bytes))=some (some (.agg #[.int .i64 0, .int .i64 0, .int .i64 0, .int .i64 0]),4,32) by kernel_rfl)
 have hol:=h.lt
 obtain ⟨c0,f0,hown⟩:=h
 obtain ⟨n,hn⟩:∃ n,L.length=n:=⟨_,rfl⟩
 rw [hn] at c0 hown hL
 have HO:=Lib.hid (And.intro hown hn)
 clear hown hn
 have h9:=cells_four_new (w.alloc (.cells #[.int .i64 r.id, .int .i64 r.x, .int .i64 r.y, .int .i64 r.label] 32)) (.int .i64 r.id) (.int .i64 r.x) (.int .i64 r.y) (.int .i64 r.label) 32
 rw [show (w.alloc (.cells #[.int .i64 r.id, .int .i64 r.x, .int .i64 r.y, .int .i64 r.label] 32)).heap.size=w.heap.size+1 by simp] at h9
 have H9:=Lib.hid h9
 clear h9
 go_enter Tryz.func84,Tryz.ntmps84
 go_wp2_with (at_builtin;refine wpList_append_own_at _ rfl _ _ 53 rfl (o+1) 32 i0 (.agg #[.int .i64 0, .int .i64 0, .int .i64 0, .int .i64 0]) 4 32 Tryz.underlying53 hi hz0 hz1 hz2 rfl (by decide) (.slice A n cap) n _ (by rfl) ((HO.out.1.alloc _).alloc _) ⟨w.heap.size+1,0,none⟩ 1 1 [.int .i64 r.id, .int .i64 r.x, .int .i64 r.y, .int .i64 r.label] (by rfl) (by rfl) (H9.out) (by intro u hu;simp at hu;rcases hu with rfl|rfl|rfl|rfl <;> rfl) (by unfold maxLen;omega) (by omega) (by simp;omega) ?_)
 intro v3 w3 hown3 hgrow3 _ hat3
 obtain ⟨A3,k3,rfl⟩:=own_formN hown3
 have hlt:=HO.out.1.lt
 have hc3:Chg (gP A) w w3:=(((Chg.refl (w:=w) (X:=gP A)).alloc _).alloc _).trans (Chg.ofGrown (X:=gP A) hgrow3 (fun k hk=>by rw [gOf_own] at hk;exact hk)) (fun k hk => .inl hk)
 have hA3:∀ j,gP A3 j→gP A j∨w.heap.size≤j:=fun j hj=>by
  rw [gOf_own,gOf_own] at hat3
  rcases hat3 with e|e
  ·exact .inl (e.symm.trans hj)
  ·refine .inr ?_
   unfold gP at hj
   rw [e] at hj
   injection hj with hj
   try simp at hj
   omega
 have hoA:¬ gP A o:=fun e=>by have:=hlt o (by rw [gOf_own];exact e);omega
 have a0:w3.cell? ⟨o,0,none⟩=some (.slice A n cap):=(hc3.cell (p:=⟨o,0,none⟩) hol hoA).trans c0
 have b0:w3.frozen? ⟨o,0,none⟩=false:=(hc3.frozen (p:=⟨o,0,none⟩) hol hoA).trans f0
 have hs3:=hc3.size
 have HE:=Lib.hid (show w3.ownsRow (o+1) 32 4 (.slice A3 (n+1) k3) (n+1) (rcF (L ++ [r]))∧Chg (OX o A) w w3∧∀ j,gP A3 j→gP A j∨w.heap.size≤j from ⟨by rw [rcF_app];exact hown3,hc3.mono (fun k hk => .inl (.inr hk)),hA3⟩)
 clear hown3 hgrow3 hat3 hlt hc3 hA3 hoA c0 f0
 go_wp2_with fail
 refine bodyPost_end (v := .tuple #[]) (by first|rfl|kernel_rfl) rfl ⟨rfl,A3,k3,⟨?_,?_,?_⟩,HE.out.2.1.set (p:=⟨o,0,none⟩) (.inl (.inl rfl)) _,HE.out.2.2⟩
 ·rw [List.length_append,HO.out.2,List.length_singleton];go_simp
 ·go_simp
 ·rw [List.length_append,HO.out.2,List.length_singleton];exact own_set HE.out.1 (p:=⟨o,0,none⟩) (by show o < o+1;omega) _
def kr (k:Fin 4→QT):Nat→List Rc
 | 0=>[]
 | 1=>(k 0).rs
 | 2=>(k 0).rs ++ (k 1).rs
 | 3=>(k 0).rs ++ ((k 1).rs ++ (k 2).rs)
 | _=>(k 0).rs ++ ((k 1).rs ++ ((k 2).rs ++ (k 3).rs))
theorem kr_step {k:Fin 4→QT} {j:Nat} (h:j < 4):kr k (j+1)=kr k j ++ (k ⟨j,h⟩).rs:=by
 match j,h with
 | 0,_|1,_|2,_|3,_=>simp [kr]
theorem kr_le {k:Fin 4→QT} {i:Nat}:∀ j,(kr k j).length≤(QT.node i k).rs.length
 | 0|1|2|3|n+4=>by simp [kr,QT.rs] <;> omega
set_option maxHeartbeats 16000000 in
theorem peach_any (s q cc o:Nat) (C:Option Addr) (N:List NdP) (hN:N.length≤1000000) (ho:∀ j,PX q C N j→j < o) (t:QT):∀ (l x y:Int) (cap:Nat) (A:Option Addr) (L:List Rc) (w:World),PtG w s q C cc N→Holds N l x y t→OutR w o A cap L→L.length+t.rs.length≤1000000→
  Calls Tryz.prog 116 #[.pointer (some ⟨q,0,none⟩), .int .i64 t.at_,(.func (.func 84) #[] #[.pointer (some ⟨o,0,none⟩)])] w fun e w'=>e = .returned (.tuple #[])∧Told w w' o A (L ++ t.rs):=by
 induction t with
 | leaf i rs=>
  intro l x y cap A L w h hh hout hlen
  have hi:i < N.length:=hh.1
  obtain ⟨p,hnode⟩:=hh.2.1
  obtain ⟨g,rfl,hqg,hgl⟩:=h.g (by omega)
  have hq:=h.lt
  have q1:=h.c1
  have hgo:g < o:=ho g (.inr (.inl rfl))
  have hqo:q < o:=ho q (.inl rfl)
  have hol:=hout.lt
  have d:=fun (j:Nat) (hj:j < 10) (v:Value) (hv:(ndC (ndAt N i))[j]? = some v)=>h.cells hi hj hv
  rw [hnode] at d
  have d0:=d 0 (by decide) _ rfl
  have d1:=d 1 (by decide) _ rfl
  have d2:=d 2 (by decide) _ rfl
  have d3:=d 3 (by decide) _ rfl
  have d4:=d 4 (by decide) _ rfl
  have d5:=d 5 (by decide) _ rfl
  have d6:=d 6 (by decide) _ rfl
  have d7:=d 7 (by decide) _ rfl
  have d8:=d 8 (by decide) _ rfl
  have d9:=d 9 (by decide) _ rfl
  simp only [Nat.add_zero,noKids] at d0 d1 d2 d3 d4 d5 d6 d7 d8 d9
  obtain ⟨n,hn⟩:∃ n,N.length=n:=⟨_,rfl⟩
  have hrow:=h.rows i hi
  rw [hnode] at hrow
  simp only at hrow
  have hpo:∀ z,gP p.1 z→z < o:=fun z hz=>ho z (.inr (.inr ⟨i,hi,by rw [hnode];exact hz⟩))
  rw [hn] at q1 hi hN
  obtain ⟨m,hm⟩:∃ m,rs.length=m:=⟨_,rfl⟩
  have hlen':L.length+m≤1000000:=by rw [← hm];exact hlen
  have H:=Lib.hid (show OutR w o A cap L∧rs.length=m∧w.ownsRow (q+1) 32 4 (.slice p.1 m p.2) m (rcF rs) from ⟨hout,hm,by rw [← hm];exact hrow⟩)
  have HPO:=Lib.hid hpo
  rw [hm] at d7 d9
  rw [show (QT.leaf i rs).at_=i from rfl,show (QT.leaf i rs).rs=rs from rfl]
  have hno:¬ OX o A w.heap.size:=fun e=>by have:=hout.far _ e;omega
  clear h hh hout hnode d hrow hn hlen hm ho hpo
  go_enter Tryz.func116,Tryz.ntmps116
  go_wp2_with fail
  go_loopw [21] (fun a wr=>∃ j:Nat,a = .int .i64 j∧j≤m∧w.heap.size+1≤wr.heap.size∧wr.cell? ⟨w.heap.size,8,none⟩=some (.bool false)∧Hid (∃ A1 c1,OutR wr o A1 c1 (L ++ rs.take j)∧Chg (OX o A) w wr∧(∀ z,gP A1 z→gP A z∨w.heap.size+1≤z))) (fun a _=>m - (intOf a).toNat)
  case atStart=>exact ⟨0,rfl,by omega,by simp,by go_simp,⟨A,cap,by simpa using H.out.1.keep ((Below.refl _ _).alloc (Nat.le_refl _) _),Chg.refl.alloc _,fun z hz => .inl hz⟩⟩
  case round=>
   obtain ⟨j,rfl,hjm,hsz,z8,hrel⟩:=hrel
   obtain ⟨A1,c1,ho1,hc1,hg1⟩:=hrel.out
   by_cases hj:j < m
   ·have hdj:decide ((j:Int) < (m:Int))=true:=decide_eq_true (by omega)
    have hrl:j < rs.length:=by rw [H.out.2.1];exact hj
    obtain ⟨r,hr⟩:∃ r,rs[j]=r:=⟨_,rfl⟩
    have hrm:r ∈ rs:=by rw [← hr];exact List.getElem_mem hrl
    have hown:=own_chg H.out.2.2 hc1 (fun z hz e=>by rw [gOf_own] at hz;have h1:=HPO.out z hz;have h2:=H.out.1.far z e;omega)
    obtain ⟨b,cap2,hv,hlo,hbl⟩:=hown.form (by omega)
    have hpb:p.1=some ⟨b,0,none⟩:=by injection hv
    have rc0:∀ m v,m < 4→(rcC r)[m]? = some v→wr.cell? ⟨b,j*4+m,none⟩=some v:=fun m v hm hv9=>by
     have h9:=hown.cells (g:=b) (by rw [hpb];rfl) (j*4+m) v (by
      have:=flat_get rcC_len rs j hrl m hm
      unfold rcF
      rw [this,hr]
      exact hv9)
     rw [Addr.add_lit,Nat.zero_add] at h9
     exact h9
    have r0:=rc0 0 _ (by decide) rfl
    have r1:=rc0 1 _ (by decide) rfl
    have r2:=rc0 2 _ (by decide) rfl
    have r3:=rc0 3 _ (by decide) rfl
    simp only [Nat.add_zero] at r0
    have htk:rs.take (j+1)=rs.take j ++ [r]:=by rw [List.take_succ_eq_append_getElem hrl,hr]
    have hwn:¬ OX o A1 w.heap.size:=fun e=>by
     rcases e with e|e
     ·omega
     ·rcases hg1 _ e with e'|e'
      ·exact hno (.inr e')
      ·omega
    have HZ:=Lib.hid (And.intro ho1 (And.intro hc1 hg1))
    clear hrel ho1 hc1 hg1 rc0 hv hown
    rw [hpb]
    go_wp2_with fail
    go_at_call 84
    have hbz:Below wr.heap.size wr (wr.alloc (.cells #[.int .i64 r.id, .int .i64 r.x, .int .i64 r.y, .int .i64 r.label] 32)):=(Below.refl _ _).alloc (Nat.le_refl _) _
    refine (out_any o c1 A1 (L ++ rs.take j) r _ (HZ.out.1.keep hbz) (by rw [List.length_append,List.length_take];omega)).mono ?_
    rintro e w6 ⟨rfl,A2,c2,ho2,hc2,hg2⟩
    have hs2:=hc2.size
    rw [World.size_alloc] at hs2 hg2
    have z86:w6.cell? ⟨w.heap.size,8,none⟩=some (.bool false):=(hc2.cell (p:=⟨w.heap.size,8,none⟩) (by rw [World.size_alloc];show w.heap.size < _;omega) hwn).trans (by go_simp)
    have HE:=Lib.hid (show ∃ A1 c1,OutR w6 o A1 c1 (L ++ rs.take (j+1))∧Chg (OX o A) w w6∧(∀ z,gP A1 z→gP A z∨w.heap.size+1≤z) from ⟨A2,c2,by rw [htk,← List.append_assoc];exact ho2,(HZ.out.2.1.alloc _).trans hc2 (fun z hz=>by
     rcases hz with hz|hz
     ·exact .inl (.inl hz)
     ·exact (HZ.out.2.2 z hz).elim (fun e => .inl (.inr e)) (fun e => .inr (by omega))),fun z hz=>(hg2 z hz).elim (HZ.out.2.2 z) (fun e => .inr (by omega))⟩)
    clear ho2 hc2 hg2 hbz r0 r1 r2 r3
    go_wp2_with fail
    go_roundw
    case rel=>exact ⟨j+1,by go_num,by omega,by omega,z86,HE.out⟩
    case measure=>simp [intOf];omega
   ·obtain rfl:j=m:=by omega
    have hdj:decide ((j:Int) < (j:Int))=false:=decide_eq_false (by omega)
    rw [show rs.take j=rs from by rw [← H.out.2.1,List.take_length]] at ho1
    have HE:=Lib.hid (show Told w wr o A (L ++ rs) from ⟨A1,c1,ho1,hc1,fun z hz=>(hg1 z hz).elim .inl (fun e => .inr (by omega))⟩)
    clear hrel ho1 hc1 hg1
    go_wp2_with fail
    exact bodyPost_end (v := .tuple #[]) (by first|rfl|kernel_rfl) rfl ⟨rfl,HE.out⟩
 | node i k ih=>
  intro l x y cap A L w h hh hout hlen
  have hi:i < N.length:=hh.1
  have hnode:=hh.2.1
  have hkids:=hh.2.2.2.2
  obtain ⟨g,rfl,hqg,hgl⟩:=h.g (by omega)
  have hq:=h.lt
  have q1:=h.c1
  have hgo:g < o:=ho g (.inr (.inl rfl))
  have hqo:q < o:=ho q (.inl rfl)
  have hol:=hout.lt
  have d:=fun (j:Nat) (hj:j < 10) (v:Value) (hv:(ndC (ndAt N i))[j]? = some v)=>h.cells hi hj hv
  rw [hnode] at d
  have d0:=d 0 (by decide) _ rfl
  have d1:=d 1 (by decide) _ rfl
  have d2:=d 2 (by decide) _ rfl
  have d3:=d 3 (by decide) _ rfl
  have d4:=d 4 (by decide) _ rfl
  have d5:=d 5 (by decide) _ rfl
  have d6:=d 6 (by decide) _ rfl
  have d7:=d 7 (by decide) _ rfl
  have d8:=d 8 (by decide) _ rfl
  have d9:=d 9 (by decide) _ rfl
  simp only [Nat.add_zero,noKids] at d0 d1 d2 d3 d4 d5 d6 d7 d8 d9
  obtain ⟨n,hn⟩:∃ n,N.length=n:=⟨_,rfl⟩
  have H:=Lib.hid (show OutR w o A cap L∧PtG w s q (some ⟨g,0,none⟩) cc N∧(∀ j,Holds N (l+1) (kx x j) (ky y j) (k j)) from ⟨hout,h,hkids⟩)
  have IH:=Lib.hid ih
  have HO:=Lib.hid ho
  rw [hn] at q1 hi hN
  have HN:=Lib.hid hn
  obtain ⟨m,hm⟩:∃ m,(QT.node i k).rs.length=m:=⟨_,rfl⟩
  have HM:=Lib.hid (And.intro hm hlen)
  rw [hm] at d7
  rw [show (QT.node i k).at_=i from rfl]
  obtain ⟨R,hR⟩:∃ R,(QT.node i k).rs=R:=⟨_,rfl⟩
  have HR:=Lib.hid hR
  rw [hR]
  have hix:∀ (j:Nat) (hj:j < 4) (W:World),(Instr.index 184 (.agg #[.int .i64 ((k 0).at_:Nat), .int .i64 ((k 1).at_:Nat), .int .i64 ((k 2).at_:Nat), .int .i64 ((k 3).at_:Nat)]) (.int .i64 (j:Nat))).run Tryz.prog W = .ok (.int .i64 ((k ⟨j,hj⟩).at_:Nat)) W:=fun j hj W=>by
   match j,hj with
   | 0,_=>rfl
   | 1,_=>rfl
   | 2,_=>rfl
   | 3,_=>rfl
  have HIX:=Lib.hid hix
  clear h hh hout hnode d hn ho hlen hm hR ih hkids hix
  go_enter Tryz.func116,Tryz.ntmps116
  go_wp2_with fail
  go_loopw [21] (fun a wr=>a = .int .i64 0∧wr=w.alloc (.cells #[.int .i64 l, .int .i64 x, .int .i64 y, .int .i64 ((k 0).at_:Nat), .int .i64 ((k 1).at_:Nat), .int .i64 ((k 2).at_:Nat), .int .i64 ((k 3).at_:Nat), .int .i64 (m:Nat), .bool true, .slice none 0 0] 186))  (fun a _=>0)
  case atStart=>exact ⟨rfl,rfl⟩
  case round=>
   obtain ⟨rfl,rfl⟩:=hrel
   go_wp2_with fail
   go_loopw [33] (fun a wr=>∃ j:Nat,a = .int .i64 j∧j≤4∧w.heap.size+1≤wr.heap.size∧Hid (∃ A1 c1,OutR wr o A1 c1 (L ++ kr k j)∧Chg (OX o A) w wr∧(∀ z,gP A1 z→gP A z∨w.heap.size≤z))) (fun a _=>4 - (intOf a).toNat)
   case atStart=>exact ⟨0,rfl,by omega,by simp,⟨A,cap,by simpa [kr] using H.out.1.keep ((Below.refl _ _).alloc (Nat.le_refl _) _),Chg.refl.alloc _,fun z hz => .inl hz⟩⟩
   case round=>
    obtain ⟨j,rfl,hjm,hsz,hrel⟩:=hrel
    obtain ⟨A1,c1,ho1,hc1,hg1⟩:=hrel.out
    by_cases hj:j < 4
    ·have hdj:decide ((j:Int) < 4)=true:=decide_eq_true (by omega)
     have hix:=HIX.out j hj
     have hlj:=kr_le (i:=i) (k:=k) j
     have hlj1:=kr_le (i:=i) (k:=k) (j+1)
     rw [HM.out.1] at hlj hlj1
     rw [kr_step hj,List.length_append] at hlj1
     have hml:=HM.out.2
     rw [HM.out.1] at hml
     have HZ:=Lib.hid (And.intro ho1 (And.intro hc1 hg1))
     have pp:=IH.out ⟨j,hj⟩ (l+1) (kx x ⟨j,hj⟩) (ky y ⟨j,hj⟩) c1 A1 (L ++ kr k j) wr (H.out.2.1.chg hc1 (fun z hz e=>by have h1:=HO.out z hz;have h2:=H.out.1.far z e;omega)) (H.out.2.2 ⟨j,hj⟩) ho1 (by rw [List.length_append];omega)
     have PP:=Lib.hid pp
     clear hrel ho1 hc1 hg1 pp
     obtain ⟨ka,hka⟩:∃ z:Nat,(k ⟨j,hj⟩).at_=z:=⟨_,rfl⟩
     rw [hka] at hix PP
     go_wp2_with fail
     go_at_call 116
     refine PP.out.mono ?_
     rintro e w6 ⟨rfl,A2,c2,ho2,hc2,hg2⟩
     have hs2:=hc2.size
     have HE:=Lib.hid (show ∃ A1 c1,OutR w6 o A1 c1 (L ++ kr k (j+1))∧Chg (OX o A) w w6∧(∀ z,gP A1 z→gP A z∨w.heap.size≤z) from ⟨A2,c2,by rw [kr_step hj,← List.append_assoc];exact ho2,HZ.out.2.1.trans hc2 (fun z hz=>by
      rcases hz with hz|hz
      ·exact .inl (.inl hz)
      ·exact (HZ.out.2.2 z hz).elim (fun e => .inl (.inr e)) (fun e => .inr (by omega))),fun z hz=>(hg2 z hz).elim (HZ.out.2.2 z) (fun e => .inr (by omega))⟩)
     clear ho2 hc2 hg2 hix hka
     go_wp2_with fail
     go_roundw
     case rel=>exact ⟨j+1,by go_num,by omega,by omega,HE.out⟩
     case measure=>simp [intOf];omega
    ·obtain rfl:j=4:=by omega
     have hdj:decide (((4:Nat):Int) < 4)=false:=by decide
     rw [show kr k 4=R from HR.out] at ho1
     have HE:=Lib.hid (show Told w wr o A (L ++ R) from ⟨A1,c1,ho1,hc1,fun z hz=>(hg1 z hz).elim .inl (fun e => .inr (by omega))⟩)
     clear hrel ho1 hc1 hg1
     go_wp2_with fail
     exact bodyPost_end (v := .tuple #[]) (by first|rfl|kernel_rfl) rfl ⟨rfl,HE.out⟩
end Go.Proofs.YthlijfligikciaaGreat
