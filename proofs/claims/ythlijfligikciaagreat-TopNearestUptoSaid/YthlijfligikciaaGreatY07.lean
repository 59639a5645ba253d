/- A part of one proof: TpJ MapA TpK. No condition. -/
import Derived.Test.YthlijfligikciaaGreatY06
import Derived.Deep.CutBlock
import Derived.Test.YthlijfligikciaaGreatY01
import Derived.Maps.Own
import Derived.Maps.OwnSet
import Derived.Maps.Views
import Derived.DeepKeys4
import Derived.Carry
namespace Go.Proofs.YthlijfligikciaaGreat
open Go.RowKit
set_option linter.unusedSimpArgs false
set_option linter.unusedVariables false
set_option maxRecDepth 2000
def BandPost (l:List Rl) (p:Nat) (w:World) (e:Ending) (w':World):Prop:=
 e = .returned (.tuple #[])∧∃ C' cc' PL,PB w' p C' cc' PL∧CovAll l PL∧RowTo w p none w' C'∧(PL.length≤5000000000∧PL.length≤patsB l)
set_option maxHeartbeats 16000000 in
theorem bands_any (p n c cc:Nat) (A:Option Addr) (L:List Rl) (P:Nat→Option Addr × Nat) (w:World) (h:Rls w p A L P) (hn:L.length=n) (hn1:n≤1000000) (hok:OkL L) (hbx:∀ i,i < n→(L.getD i rl0).boxes.length≤9223372036854775806) (hcnt:cntB L≤1048576) (hp:PB w p none cc []):
  Calls Tryz.prog 110 #[.slice A n c, .func (.func 111) #[] #[.pointer (some ⟨p,0,none⟩)]] w (BandPost L p w):=by
 have hpl:=hp.lt
 have P1:=Lib.hid (fun (Y:World) (hY:Below p w Y) (hs:w.heap.size≤Y.heap.size)=>edgesX_post n c A L P Y ((h.keep hY).more (by omega)) hn hcnt hn1 hok)
 have P2:=Lib.hid (fun (Y:World) (hY:Below p w Y) (hs:w.heap.size≤Y.heap.size)=>edgesY_post n c A L P Y ((h.keep hY).more (by omega)) hn hcnt hn1 hok)
 have P3:=Lib.hid (fun (Y:World) (hY:Below p w Y) (hs:w.heap.size≤Y.heap.size) (D:Option Addr) (nx cx:Nat) (hx:Ints Y Y.heap.size D (xsL L)) (hxn:(xsL L).length=nx) (y:Int)=>grow_post n c nx cx A D L P (xsL L) y Y ((h.keep hY).more (by omega)) hn hn1 hbx hx hxn (by have:=xsL_len hok;omega) (xsL_rng hok))
 have HP:=Lib.hid hp
 have HO:=Lib.hid hok
 have HPost:=Lib.hid (show ∀ (C':Option Addr) (cc':Nat) (PL:List Pa) (w':World),PB w' p C' cc' PL→CovAll L PL→RowTo w p none w' C'→(PL.length≤5000000000∧PL.length≤patsB L)→BandPost L p w (.returned (.tuple #[])) w' from fun C' cc' PL w' h1 h2 h3 h4=>⟨rfl,C',cc',PL,h1,h2,h3,h4⟩)
 generalize BandPost L p w=Post at HPost ⊢
 clear h hn hbx hcnt hp hok
 go_enter Tryz.func110,Tryz.ntmps110
 go_wp2_with fail
 go_at_call 140
 refine (P1.out _ q9l (by go_size)).mono ?_
 rintro e w' ⟨D,cx,nx,rfl,hxn,hxi,hxo,hb⟩
 obtain ⟨X1,rfl,hl1,hm1⟩:=later _ hb (Nat.le_refl _)
 clear hb
 have HX1:=Lib.hid (And.intro hxn (And.intro hxi hxo))
 clear hxn hxi hxo
 go_wp2_with fail
 go_at_call 140
 refine (P2.out _ q9l (by go_size)).mono ?_
 rintro e w' ⟨E,cy,ny,rfl,hyn,hyi,hyo,hb⟩
 obtain ⟨X2,rfl,hl2,hm2⟩:=later _ hb (Nat.le_refl _)
 clear hb
 have hny:=ysL_len HO.out
 rw [hyn] at hny
 have hW:w.heap.size≤X2.w.heap.size:=by go_size
 have hbW:Below w.heap.size w X2.w:=q9l
 have hbp:Below p w X2.w:=hbW.mono (Nat.le_of_lt hpl)
 have hpW:p < X2.w.heap.size:=Nat.lt_of_lt_of_le hpl hW
 have HY:=Lib.hid (And.intro hyn (And.intro hyi (show 0 < (ysL L).length→∀ a,E=some a→Off p none a.block from fun h a e=>⟨by have:=hyo (by rw [← hyn];exact h) a e;omega,fun _ h=>by cases h⟩)))
 have HX:=Lib.hid (show (xsL L).length=nx∧Ints X2.w X2.w.heap.size D (xsL L)∧(0 < (xsL L).length→∀ a,D=some a→Off p none a.block) from ⟨HX1.out.1,(HX1.out.2.1.keep (X2.is)).more hm2,fun h a e=>⟨by have:=HX1.out.2.2 (by rw [← HX1.out.1];exact h) a e;omega,fun _ h=>by cases h⟩⟩)
 have HP2:=Lib.hid (HP.out.keep hbW)
 have HBP:=Lib.hid hbp
 have HWt:=Lib.hid (fun (wr:World) (C':Option Addr) (h:RowTo X2.w p none wr C')=>(RowTo.below (q:=p) (A:=none) hbW).trans h)
 clear hyn hyi hyo HX1 hbp hbW
 go_wp2_with fail
 go_loopw [6] (fun i wr=>∃ (k:Nat),(k≤65537∧Hid (∃ C' cc' PL,(PB wr p C' cc' PL∧CovI L k PL)∧RowTo X2.w p none wr C'∧(PL.length≤k*65536∧PL.length≤k*(2*cntB L))∧(k < ny∨k=0)))∧i = .int .i64 k∧X2.w.heap.size≤wr.heap.size) (fun i _=>ny - (intOf i).toNat)
 case atStart=>exact ⟨0,⟨by omega,none,cc,[],⟨HP2.out,covI_first HO.out⟩,RowTo.refl _ _ _,⟨Nat.zero_le _,Nat.zero_le _⟩, .inr rfl⟩,rfl,Nat.le_refl _⟩
 case round=>
  obtain ⟨k,⟨hk,hrel⟩,rfl,hsz⟩:=hrel
  obtain ⟨C',cc',PL,⟨hPB,hcov⟩,hto,hlen,hkn⟩:=hrel.out
  by_cases hlt:k+1 < ny
  ·have hbr:Below p w wr:=HBP.out.trans (hto.elder hpW (fun a e=>by cases e))
   obtain ⟨X,rfl⟩:∃ X:Later p w,wr=X.w:=⟨⟨wr,hbr⟩,rfl⟩
   have hpX:p < X.w.heap.size:=Nat.lt_of_lt_of_le hpW hsz
   have hxs:=(HX.out.2.1.to hto (Nat.le_refl _) HX.out.2.2).more hsz
   obtain ⟨b,o,hSe,hB,hc⟩:=((HY.out.2.1.to hto (Nat.le_refl _) HY.out.2.2).more hsz) (by rw [HY.out.1];omega)
   subst hSe
   have hr0:=getD_rng (ysL_rng HO.out) k
   have c0:=hc k (by rw [HY.out.1];omega)
   have HC:=Lib.hid (fun (j:Nat) (hj:j < ny)=>hc j (by rw [HY.out.1];exact hj))
   have G3:=Lib.hid (fun (Y:World) (hY:Below X.w.heap.size X.w Y) (y:Int)=>P3.out Y (X.is.trans (hY.mono (Nat.le_of_lt hpX))) (by have:=hY.size;omega) D nx cx ((hxs.keep hY).more hY.size) HX.out.1 y)
   have HM:=Lib.hid (And.intro hPB (And.intro hcov (And.intro hto (And.intro hlen hkn))))
   have hsp:=hPB.row_lt
   have hMR:=Lib.hid (fun (M9:List Sp) (m9:Nat) (h:M9=rowP L (xsL L) ((ysL L).getD k 0)∧M9.length=m9)=>(show m9≤65536 by have:=rowP_len HO.out ((ysL L).getD k 0);rw [← h.1,h.2] at this;exact this))
   obtain ⟨y0,hy0⟩:∃ y,(ysL L).getD k 0=y:=⟨_,rfl⟩
   have HY0:=Lib.hid hy0
   rw [hy0] at hr0 c0 hMR
   clear hrel hPB hcov hto hlen hkn hc hxs hbr hy0
   go_wp2_with fail
   go_at_call 143
   refine (G3.out _ q9l _).mono ?_
   rintro e w' ⟨C9,cc9,m9,M9,rfl,hM9,hS9,ho9,hb⟩
   obtain ⟨X3,rfl,hl3,hm3⟩:=later _ hb (Nat.le_refl _)
   clear hb
   have hm9:=hMR.out _ _ hM9
   have HM9:=Lib.hid hM9
   have HS9:=Lib.hid (And.intro hS9 ho9)
   clear hM9 hS9 ho9
   go_upto_block 2 with fail
   go_cut [8] from 27 to 44 (fun kk wx=>∃ k2:Nat,((k < k2∧k2 < ny)∧Hid ((∀ j,k≤j→j < k2→rowP L (xsL L) ((ysL L).getD j 0)=M9)∧(k2+1 < ny→rowP L (xsL L) ((ysL L).getD k2 0)≠M9)))∧kk = .int .i64 k2∧Below X3.w.heap.size X3.w wx)
   case first=>
    go_wp2_with fail
    go_loopw [8] (fun kk wx=>∃ k2:Nat,((k < k2∧k2 < ny)∧Hid (∀ j,k≤j→j < k2→rowP L (xsL L) ((ysL L).getD j 0)=M9))∧kk = .int .i64 k2∧Below X3.w.heap.size X3.w wx) (fun kk _=>ny - (intOf kk).toNat)
    case atStart=>exact ⟨k+1,⟨⟨by omega,hlt⟩,fun j h1 h2=>by have e:j=k:=(by omega);rw [e,HY0.out];exact HM9.out.1.symm⟩,by go_num,Below.refl _ _⟩
    case round=>
     obtain ⟨k2,⟨⟨h1,h2⟩,hall⟩,rfl,hb4⟩:=hrel
     obtain ⟨X4,rfl⟩:∃ X4:Later X3.w.heap.size X3.w,wr=X4.w:=⟨⟨wr,hb4⟩,rfl⟩
     have hs4:=hb4.size
     clear hb4
     by_cases hlt2:k2+1 < ny
     ·have hc2:=HC.out k2 h2
      have hrow:∀ (M:List Sp),M=rowP L (xsL L) ((ysL L).getD k2 0)→M9=M→∀ j,k≤j→j < k2+1→rowP L (xsL L) ((ysL L).getD j 0)=M9:=fun M hM he j hj1 hj2=>by
       rcases Nat.lt_or_eq_of_le (Nat.le_of_lt_succ hj2) with h|h
       ·exact hall.out j hj1 h
       ·rw [h,he,hM]
      obtain ⟨y2,hy2⟩:∃ y,(ysL L).getD k2 0=y:=⟨_,rfl⟩
      rw [hy2] at hc2 hrow
      have HR2:=Lib.hid hrow
      have HY2:=Lib.hid hy2
      clear hrow hy2
      go_wp2_with fail
      go_at_call 143
      refine (G3.out _ q9l _).mono ?_
      rintro e w' ⟨C10,cc10,m10,M10,rfl,hM10,hS10,ho10,hb⟩
      obtain ⟨X5,rfl,hl5,hm5⟩:=later _ hb (Nat.le_refl _)
      clear hb
      have HM10:=Lib.hid hM10
      have HS10:=Lib.hid hS10
      clear hM10 hS10 ho10
      go_wp2_with fail
      go_at_call 144
      refine (sequal_any m9 m10 cc9 cc10 C9 C10 M9 M10 _ ((HS9.out.1.keep q9l).more (by go_size)) HS10.out HM9.out.2 HM10.out.2 (by omega)).mono ?_
      rintro e w' ⟨rfl,hb⟩;obtain ⟨X6,rfl,hl6,hm6⟩:=later _ hb (Nat.le_refl _);clear hb;(try simp only [q9A,q9B,q9D] at hm6 hl6)
      obtain ⟨R,hR⟩:∃ R,decide (M9=M10)=R:=⟨_,rfl⟩
      have HR:=Lib.hid hR
      rw [hR]
      clear hR
      cases R with
      | true=>
       go_wp2_with fail
       go_roundw
       case rel=>exact ⟨k2+1,⟨⟨by omega,hlt2⟩,HR2.out _ HM10.out.1 (of_decide_eq_true HR.out)⟩,by go_num,q9l⟩
       case measure=>simp [intOf];omega
      | false=>
       go_wp2_with fail
       go_meet
       exact ⟨k2,⟨⟨h1,h2⟩,hall.out,fun _ e=>of_decide_eq_false HR.out (by rw [HM10.out.1,← HY2.out];exact e.symm)⟩,rfl,q9l⟩
     ·go_wp2_with fail
      go_meet
      exact ⟨k2,⟨⟨h1,h2⟩,hall.out,fun h=>absurd h hlt2⟩,rfl,q9l⟩
   case rest=>
    obtain ⟨k2,⟨⟨h1,h2⟩,hall⟩,rfl,hb4⟩:=hcut
    obtain ⟨X4,rfl⟩:∃ X4:Later X3.w.heap.size X3.w,wc=X4.w:=⟨⟨wc,hb4⟩,rfl⟩
    have hs4:=hb4.size
    have hc2:=HC.out k2 h2
    have hr2:=getD_rng (ysL_rng HO.out) k2
    have hband:=fun h=>covI_band HO.out (L:=PL) (i:=k) (k:=k2) h h1 (by rw [HY.out.1];exact h2) (fun j hj1 hj2=>by rw [hall.out.1 j hj1 hj2,HY0.out];exact HM9.out.1) (fun h9=>by rw [HY0.out,← HM9.out.1];exact hall.out.2 (by rw [← HY.out.1];exact h9))
    obtain ⟨y2,hy2⟩:∃ y,(ysL L).getD k2 0=y:=⟨_,rfl⟩
    rw [hy2,HY0.out,← HM9.out.1] at hband
    have HBA:=Lib.hid (show CovI L k2 (PL ++ bandP y0 (y2 - 1) M9) from hband HM.out.2.1)
    rw [hy2] at hc2 hr2
    clear hb4 hy2 hband hall
    go_wp2_with fail
    (refine wp_region_later_tail 11 (X4.w.heap.size) (by kernel_rfl) (by kernel_rfl) (by go_size) ?_;simp only [List.take_succ_cons,List.take_zero,List.drop_succ_cons,List.drop_zero];(repeat (go_big_quiet_step (fail)));refine wpQuiet_nil ?_;intro Xr hlXr hmXr)
    have hbx:Below X.w.heap.size X.w Xr.w:=q9l
    have hb3:Below X3.w.heap.size X3.w Xr.w:=q9l
    have HPX:=Lib.hid (HM.out.1.keep hbx)
    have hs5:=hbx.size
    have hto5:=Lib.hid (RowTo.below (q:=p) (A:=C') hbx)
    go_wp2_with fail
    go_at_call 111
    refine (pt1_any p cc' m9 cc9 C' C9 PL M9 y0 (y2 - 1) _ HPX.out ((HS9.out.1.keep hb3).more hb3.size) (fun hpos a ha=>⟨by have:=HS9.out.2 (by rw [← HM9.out.2];exact hpos) a ha;omega,fun a' ha'=>by have:=HS9.out.2 (by rw [← HM9.out.2];exact hpos) a ha;have:=hsp a' ha';omega⟩) HM9.out.2 (by have:=HM.out.2.2.2.1.1;omega)).mono ?_
    rintro e w' ⟨rfl,C2,cc2,hPB2,hto2⟩
    have HE:=Lib.hid (And.intro hPB2 hto2)
    have hs6:=hto2.size
    clear hPB2 hto2
    go_wp2_with fail
    go_roundw
    case rel=>
     have hb65:(bandP y0 (y2 - 1) M9).length≤65536:=by rw [band_len,HM9.out.2];exact hm9
     exact ⟨k2,⟨by omega,C2,cc2,_,⟨HE.out.1,HBA.out⟩,(HM.out.2.2.1.trans hto5.out).trans HE.out.2,⟨by rw [List.length_append];have:=HM.out.2.2.2.1.1;omega,by rw [List.length_append];exact Nat.le_trans (Nat.add_le_add HM.out.2.2.2.1.2 (show _≤2*cntB L by rw [band_len,HM9.out.1];exact rowP_cnt L y0)) (by rw [← Nat.succ_mul];exact Nat.mul_le_mul_right _ h1)⟩, .inl h2⟩,rfl,by omega⟩
    case measure=>simp [intOf];omega
  ·have HF:=Lib.hid (HPost.out _ _ _ _ hPB (cov_all HO.out hcov (by rw [HY.out.1];omega) (by rw [HY.out.1];exact hkn)) (HWt.out _ _ hto) ⟨by omega,Nat.le_trans hlen.2 (Nat.mul_le_mul_right _ (by have:=ysL_cnt L;rw [HY.out.1] at this;omega))⟩)
   clear hrel hPB hcov hto hlen hkn
   go_wp2
   go_end0
   exact HF.out
end Go.Proofs.YthlijfligikciaaGreat
namespace Go.Proofs.YthlijfligikciaaGreat
open Go.RowKit Go.Maps
set_option linter.unusedSimpArgs false
set_option linter.unusedVariables false
set_option maxRecDepth 2000
def heldV (v:Value):Option (DataW Value × List MemPlace):=some (.held v,[])
theorem heldV_inv {v u:Value} {ps:List MemPlace} (h:heldV v=some (.held u,ps)):v=u:=by
 unfold heldV at h
 injection h with h
 injection h with h _
 injection h
def key3 (a b c:Int):Value := .agg #[.int .i64 a, .int .i64 b, .int .i64 c]
theorem key3_inj {a b c a' b' c':Int} (h:key3 a b c=key3 a' b' c'):a=a'∧b=b'∧c=c':=by
 unfold key3 at h
 simp at h
 exact h
theorem k3_row:(204:TypeId) < Tryz.prog.types.size:=of_decide_eq_true (by kernel_rfl)
theorem k3_wide:(match Tryz.prog.underlying 204 with|some (.array _ _)|some (.struct _)=>true|_=>false)=true:=by rw [Tryz.underlying204]
theorem k3_law:WideMaps.KeyLaw Tryz.prog 204:=deep_law_laid (show laidOutB Tryz.prog=true by kernel_rfl) (m:=2) (by omega) k3_row (by kernel_rfl) k3_wide
theorem k3_keyed:Keyed Tryz.prog 204:=Keyed.of_law k3_law
theorem zslice_patch (w:World):(zeroValue 141).run Tryz.prog w = .ok (.slice none 0 0) w:=by kernel_rfl
theorem k3_type:Tryz.prog.keyType 204=true:=by kernel_rfl
theorem k3_size:∃ m,Tryz.prog.types.size+1=m+3:=⟨Tryz.prog.types.size - 2,by have h:=k3_row;have:3≤Tryz.prog.types.size:=Nat.le_trans (by decide) h;omega⟩
theorem int_und:Tryz.prog.underlying 3=some (.int .i64):=Tryz.underlying3
theorem k3_cells:Tryz.prog.cellsOf 204=3:=by kernel_rfl
theorem k1_cells:Tryz.prog.cellsOf 3=1:=by kernel_rfl
def wf64 (a:Int):Prop := -9223372036854775808≤a∧a≤9223372036854775807
theorem wf64_lit {a:Int} (h:wf64 a):(Lit.int .i64 a).wf=true:=by
 simp only [Lit.wf,Bool.and_eq_true,decide_eq_true_eq]
 exact h
theorem keyOf_three {a b c:Int} (ha:wf64 a) (hb:wf64 b) (hc:wf64 c):∃ kl,keyOf Tryz.prog 204 (key3 a b c)=some kl:=by
 obtain ⟨m,hm⟩:=k3_size
 have h1:=wf64_lit ha
 have h2:=wf64_lit hb
 have h3:=wf64_lit hc
 unfold keyOf key3
 rw [Tryz.underlying204]
 simp only [k3_type,Value.formed,Tryz.underlying204,k3_cells,hm]
 simp [Program.keyLits,Tryz.underlying204,int_und,k3_cells,k1_cells,Value.cells,List.range,List.range.loop,h1,h2,h3]
def M3 (w:World) (b n:Nat) (S:Int→Int→Int→Option Value):Prop:=
 ∃ D:DataW Value,w.ownsMap Tryz.prog 204 heldV b n D∧IsMap D∧∀ r t l kl,keyOf Tryz.prog 204 (key3 r t l)=some kl→has D kl=(S r t l).isSome∧∀ v,S r t l=some v→∀ z,D.atKey kl z = .held v
section
variable {w w':World} {b n:Nat} {S:Int→Int→Int→Option Value}
theorem M3.lt (h:M3 w b n S):b < w.heap.size:=by
 obtain ⟨D,h,_⟩:=h
 exact h.lt
theorem M3.same (h:M3 w b n S) (e:w'.heap[b]? = w.heap[b]?):M3 w' b n S:=by
 obtain ⟨D,⟨es,cl,h,r⟩,h2⟩:=h
 exact ⟨D,⟨es,cl,e.trans h,r⟩,h2⟩
theorem M3.mono (h:M3 w b n S) {m:Nat} (hm:n≤m):M3 w b m S:=by
 obtain ⟨D,h,r⟩:=h
 exact ⟨D,h.mono hm,r⟩
theorem m3_made (w:World):M3 (w.alloc (.map #[] 0)) w.heap.size 0 (fun _ _ _=>none):=
 ⟨_,World.ownsMap_made _ _ _ _,isMap_empty,fun r t l kl _=>⟨rfl,fun v h=>by cases h⟩⟩
theorem M3.look (h:M3 w b n S) {r t l:Int} (hr:wf64 r) (ht:wf64 t) (hl:wf64 l):(Instr.lookup 118 (.map (some b)) (key3 r t l) true).run Tryz.prog w = .ok (.tuple #[(S r t l).getD (.slice none 0 0), .bool (S r t l).isSome]) w:=by
 obtain ⟨D,h,hm,hat⟩:=h
 obtain ⟨kl,hk⟩:=keyOf_three hr ht hl
 obtain ⟨v,ps,hrun,hv⟩:=h.look_ok k3_keyed Tryz.underlying118 (zslice_patch w) (zd := .held (.slice none 0 0)) (zp:=[]) rfl hk
 obtain ⟨h1,h2⟩:=hat r t l kl hk
 rw [hrun,h1]
 cases hS:S r t l with
 | none=>
  rw [hS] at h1
  rw [atKey_of_not_has (by rw [h1];rfl)] at hv
  rw [heldV_inv hv]
  rfl
 | some u=>
  rw [h2 u hS] at hv
  rw [heldV_inv hv]
  rfl
theorem M3.put (h:M3 w b n S) (hn:n < 9223372036854775807) {r t l:Int} (hr:wf64 r) (ht:wf64 t) (hl:wf64 l) (v:Value):
  ∃ w',(Instr.mapUpdate 118 (.map (some b)) (key3 r t l) v).run Tryz.prog w = .ok () w'∧M3 w' b (n+1) (fun x y z=>if x=r∧y=t∧z=l then some v else S x y z)∧w.grownBy w' (some b):=by
 obtain ⟨D,h,hm,hat⟩:=h
 obtain ⟨kl,hk⟩:=keyOf_three hr ht hl
 obtain ⟨w',hrun,h1,h2⟩:=h.update k3_keyed Tryz.underlying118 (by unfold maxLen;omega) hk (val:=v) (d := .held v) (ps:=[]) rfl
 refine ⟨w',hrun,⟨_,h1,hm.put _ _,fun x y z kl' hk'=>?_⟩,h2⟩
 by_cases e:x=r∧y=t∧z=l
 ·obtain ⟨rfl,rfl,rfl⟩:=e
  have:kl'=kl:=by rw [hk] at hk';injection hk' with hk';exact hk'.symm
  subst this
  simp only [and_self,if_true]
  refine ⟨has_put_same hm (k3_keyed.key hk) _,fun u hu zd=>?_⟩
  injection hu with hu
  subst hu
  exact atKey_put_same hm (k3_keyed.key hk) _ _
 ·have hne:kl'≠kl:=fun he=>e (key3_inj (k3_keyed.inj (he ▸ hk') hk))
  simp only [e,if_false]
  obtain ⟨h3,h4⟩:=hat x y z kl' hk'
  exact ⟨(has_put_other hne _).trans h3,fun u hu zd=>by rw [atKey_put_other hne];exact h4 u hu zd⟩
end
abbrev RP:=Rl × (Option Addr × Nat)
def rp0:RP:=(rl0,(none,0))
def rpV (x:RP):List Value:=[.int .i64 x.1.kind, .int .i64 x.1.roles, .int .i64 x.1.lo, .int .i64 x.1.hi, .int .i64 x.1.labels, .slice x.2.1 x.1.boxes.length x.2.2, .int .i64 x.1.zoom]
def mV (M:List RP):List Value:=M.flatMap rpV
theorem mV_snoc (M:List RP) (x:RP):mV (M ++ [x])=mV M ++ rpV x:=by simp [mV]
theorem mV_len (M:List RP):(mV M).length=M.length*7:=by
 induction M with
 | nil=>rfl
 | cons x M ih=>simp [mV,rpV] at ih ⊢;omega
theorem mV_get:∀ (M:List RP) (i:Nat),i < M.length→∀ j,j < 7→(mV M)[i*7+j]? = (rpV (M.getD i rp0))[j]?
 | [],i,h,_,_=>by cases h
 | x :: M,0,_,j,hj=>by
  have h7:(rpV x).length=7:=rfl
  simp only [mV,List.flatMap_cons,Nat.zero_mul,Nat.zero_add]
  rw [List.getElem?_append_left (by omega)]
  rfl
 | x :: M,i+1,h,j,hj=>by
  have h7:(rpV x).length=7:=rfl
  have ih:=mV_get M i (by simpa using h) j hj
  simp only [mV,List.flatMap_cons] at ih ⊢
  rw [List.getElem?_append_right (by omega),h7,show (i+1)*7+j - 7=i*7+j by omega,ih]
  rfl
theorem rls_own {w:World} {base n c B:Nat} {A:Option Addr} {M:List RP} (h:w.ownsRow base 65 7 (.slice A n c) n (mV M)) (hn:M.length=n) (hB:w.heap.size≤B) (hb:∀ x ∈ M,Bxs w B x.2.1 x.1.boxes) (hc:∀ x ∈ M,x.1.boxes.length≤x.2.2∧x.2.2≤9223372036854775807):
  Rls w B A (M.map Prod.fst) (fun i=>(M.getD i rp0).2):=by
 subst hn
 have hget:∀ i,i < M.length→(M.map Prod.fst).getD i rl0=(M.getD i rp0).1:=fun i hi=>by simp [List.getD,List.getElem?_eq_getElem hi]
 have hmem:∀ i,i < M.length→M.getD i rp0 ∈ M:=fun i hi=>by
  rw [show M.getD i rp0=M[i] by simp [List.getD,List.getElem?_eq_getElem hi]]
  exact List.getElem_mem _
 refine ⟨fun hp=>?_,fun i hi=>?_,fun i hi=>?_⟩
 ·rw [List.length_map] at hp
  obtain ⟨g,cap,hv,_,hlt⟩:=h.form (by omega)
  have hA:A=some ⟨g,0,none⟩:=by injection hv
  subst hA
  refine ⟨g,0,rfl,by omega,fun i hi=>?_⟩
  rw [List.length_map] at hi
  rw [hget i hi]
  have hcell:∀ j,j < 7→∀ v,(rpV (M.getD i rp0))[j]? = some v→w.cell? ⟨g,0+i*7+j,none⟩=some v:=fun j hj v hv=>by
   have:=h.cells (g:=g) rfl (i*7+j) v (by rw [mV_get M i hi j hj];exact hv)
   rw [Addr.add_lit] at this
   rw [Nat.add_assoc]
   exact this
  exact ⟨hcell 0 (by decide) _ rfl,hcell 1 (by decide) _ rfl,hcell 2 (by decide) _ rfl,hcell 3 (by decide) _ rfl,hcell 4 (by decide) _ rfl,hcell 5 (by decide) _ rfl,hcell 6 (by decide) _ rfl⟩
 ·rw [List.length_map] at hi
  rw [hget i hi]
  exact hb _ (hmem i hi)
 ·rw [List.length_map] at hi
  rw [hget i hi]
  exact hc _ (hmem i hi)
def mineN (L:List Rl) (P:Nat→Option Addr × Nat) (a b c:Int):Nat→List RP
 | 0=>[]
 | i+1=>if forR (L.getD i rl0) a b c=true then mineN L P a b c i ++ [(L.getD i rl0,P i)] else mineN L P a b c i
theorem mineN_fst (L:List Rl) (P:Nat→Option Addr × Nat) (a b c:Int):∀ k,k≤L.length→(mineN L P a b c k).map Prod.fst=mineR (L.take k) a b c
 | 0,_=>by rfl
 | k+1,h=>by
  have ih:=mineN_fst L P a b c k (by omega)
  rw [mine_snoc (by omega)]
  unfold mineN
  split
  ·rw [List.map_append,ih];rfl
  ·rw [ih,List.append_nil]
theorem mineN_mem {L:List Rl} {P:Nat→Option Addr × Nat} {a b c:Int}:∀ k,∀ x ∈ mineN L P a b c k,∃ i,i < k∧x=(L.getD i rl0,P i)
 | 0,x,h=>by cases h
 | k+1,x,h=>by
  unfold mineN at h
  split at h
  ·rcases List.mem_append.1 h with h|h
   ·obtain ⟨i,hi,e⟩:=mineN_mem k x h
    exact ⟨i,by omega,e⟩
   ·exact ⟨k,by omega,List.mem_singleton.1 h⟩
  ·obtain ⟨i,hi,e⟩:=mineN_mem k x h
   exact ⟨i,by omega,e⟩
theorem mineN_len (L:List Rl) (P:Nat→Option Addr × Nat) (a b c:Int):∀ k,(mineN L P a b c k).length≤k
 | 0=>Nat.le_refl _
 | k+1=>by
  have ih:=mineN_len L P a b c k
  unfold mineN
  split
  ·simp;omega
  ·omega
theorem mine_ok (L:List Rl) (a b c:Int):OkL (mineR L a b c):=fun r hr=>by
 have:=(List.mem_filter.1 hr).2
 unfold forR at this
 simp only [Bool.and_eq_true] at this
 exact this.1.1.1.1.1.1
theorem cnt_filter (p:Rl→Bool):∀ L:List Rl,cntB (L.filter p)≤cntB L
 | []=>Nat.le_refl _
 | r :: L=>by
  have ih:=cnt_filter p L
  by_cases h:p r=true
  ·rw [List.filter_cons_of_pos h]
   simp only [cntB,List.map_cons,List.sum_cons] at ih ⊢
   omega
  ·rw [List.filter_cons_of_neg h]
   simp only [cntB,List.map_cons,List.sum_cons] at ih ⊢
   omega
theorem patsB_mono (p:Rl→Bool) (L:List Rl):patsB (L.filter p)≤patsB L:=by
 have h:=Nat.mul_le_mul_left 2 (cnt_filter p L)
 exact Nat.mul_le_mul h h
theorem cnt_mem {L:List Rl} {r:Rl} (h:r ∈ L):r.boxes.length≤cntB L:=by
 induction L with
 | nil=>cases h
 | cons x L ih=>
  simp only [cntB,List.map_cons,List.sum_cons] at ih ⊢
  rcases List.mem_cons.1 h with rfl|h
  ·omega
  ·have:=ih h
   omega
def Pats (w:World) (B:Nat) (A:Option Addr) (L:List Pa):Prop:=0 < L.length→∃ b o,A=some ⟨b,o,none⟩∧b < B∧∀ i,i < L.length→
 w.cell? ⟨b,o+i*5,none⟩=some (.int .i64 (L.getD i pa0).bx.a)∧w.cell? ⟨b,o+i*5+1,none⟩=some (.int .i64 (L.getD i pa0).bx.b)∧w.cell? ⟨b,o+i*5+2,none⟩=some (.int .i64 (L.getD i pa0).bx.c)∧w.cell? ⟨b,o+i*5+3,none⟩=some (.int .i64 (L.getD i pa0).bx.d)∧w.cell? ⟨b,o+i*5+4,none⟩=some (.int .i64 (L.getD i pa0).zoom)
theorem Pats.same {w w':World} {B:Nat} {A:Option Addr} {L:List Pa} (h:Pats w B A L) (hs:0 < L.length→∀ a,A=some a→w'.heap[a.block]? = w.heap[a.block]?):Pats w' B A L:=fun hn=>by
 obtain ⟨b,o,rfl,hlt,hc⟩:=h hn
 refine ⟨b,o,rfl,hlt,fun i hi=>?_⟩
 have e:∀ j,w'.cell? ⟨b,j,none⟩=w.cell? ⟨b,j,none⟩:=fun j=>World.cell?_of_block (a:=⟨b,j,none⟩) (hs hn ⟨b,o,none⟩ rfl)
 obtain ⟨h0,h1,h2,h3,h4⟩:=hc i hi
 exact ⟨(e _).trans h0,(e _).trans h1,(e _).trans h2,(e _).trans h3,(e _).trans h4⟩
theorem Pats.more {w:World} {B B':Nat} {A:Option Addr} {L:List Pa} (h:Pats w B A L) (hb:B≤B'):Pats w B' A L:=fun hn=>by
 obtain ⟨b,o,rfl,hlt,hc⟩:=h hn
 exact ⟨b,o,rfl,Nat.lt_of_lt_of_le hlt hb,hc⟩
theorem Pats.keep {w w':World} {B:Nat} {A:Option Addr} {L:List Pa} (h:Pats w B A L) (hb:Below B w w'):Pats w' B A L:=h.same fun hn a ha=>by
 obtain ⟨b,o,e,hlt,hc⟩:=h hn
 rw [e] at ha
 injection ha with ha
 subst ha
 exact hb.block b hlt
theorem paV_get:∀ (M:List Pa) (i:Nat),i < M.length→∀ j,j < 5→(paV M)[i*5+j]? = ([.int .i64 (M.getD i pa0).bx.a, .int .i64 (M.getD i pa0).bx.b, .int .i64 (M.getD i pa0).bx.c, .int .i64 (M.getD i pa0).bx.d, .int .i64 (M.getD i pa0).zoom]:List Value)[j]?
 | [],i,h,_,_=>by cases h
 | x :: M,0,_,j,hj=>by
  simp only [paV,List.flatMap_cons,Nat.zero_mul,Nat.zero_add]
  rw [List.getElem?_append_left (by simpa using hj)]
  rfl
 | x :: M,i+1,h,j,hj=>by
  have ih:=paV_get M i (by simpa using h) j hj
  simp only [paV,List.flatMap_cons] at ih ⊢
  rw [List.getElem?_append_right (by simp;omega)]
  simp only [List.length_cons,List.length_nil]
  rw [show (i+1)*5+j - (0+1+1+1+1+1)=i*5+j by omega,ih]
  rfl
theorem pats_own {w:World} {base n c:Nat} {A:Option Addr} {M:List Pa} (h:w.ownsRow base 144 5 (.slice A n c) n (paV M)) (hn:M.length=n):Pats w w.heap.size A M:=fun hp=>by
 subst hn
 obtain ⟨g,cap,hv,_,hlt⟩:=h.form (by omega)
 have hA:A=some ⟨g,0,none⟩:=by injection hv
 subst hA
 refine ⟨g,0,rfl,hlt,fun i hi=>?_⟩
 have hcell:∀ j,j < 5→∀ v,([.int .i64 (M.getD i pa0).bx.a, .int .i64 (M.getD i pa0).bx.b, .int .i64 (M.getD i pa0).bx.c, .int .i64 (M.getD i pa0).bx.d, .int .i64 (M.getD i pa0).zoom]:List Value)[j]? = some v→w.cell? ⟨g,0+i*5+j,none⟩=some v:=fun j hj v hv=>by
  have:=h.cells (g:=g) rfl (i*5+j) v (by rw [paV_get M i hi j hj];exact hv)
  rw [Addr.add_lit] at this
  rw [Nat.add_assoc]
  exact this
 exact ⟨hcell 0 (by decide) _ rfl,hcell 1 (by decide) _ rfl,hcell 2 (by decide) _ rfl,hcell 3 (by decide) _ rfl,hcell 4 (by decide) _ rfl⟩
def RlsLo (lo:Nat) (A:Option Addr) (L:List Rl) (P:Nat→Option Addr × Nat):Prop:=
 (0 < L.length→∀ a,A=some a→lo≤a.block)∧∀ i,i < L.length→0 < (L.getD i rl0).boxes.length→∀ a,(P i).1=some a→lo≤a.block
theorem Bxs.agree {w w':World} {B lo:Nat} {A:Option Addr} {L:List Bx} (h:Bxs w B A L) (hlo:0 < L.length→∀ a,A=some a→lo≤a.block) (hs:∀ k,lo≤k→k < B→w'.heap[k]? = w.heap[k]?):Bxs w' B A L:=fun hn=>by
 obtain ⟨b,o,rfl,hlt,hc⟩:=h hn
 have hb:=hlo hn _ rfl
 exact ⟨b,o,rfl,hlt,fun i hi j hj=>(World.cell?_of_block (a:=⟨b,o+i*4+j,none⟩) (hs b hb hlt)).trans (hc i hi j hj)⟩
theorem Rls.agree {w w':World} {B lo:Nat} {A:Option Addr} {L:List Rl} {P:Nat→Option Addr × Nat} (h:Rls w B A L P) (hlo:RlsLo lo A L P) (hs:∀ k,lo≤k→k < B→w'.heap[k]? = w.heap[k]?):Rls w' B A L P:=by
 refine ⟨fun hn=>?_,fun i hi=>(h.bx i hi).agree (hlo.2 i hi) hs,h.cap⟩
 obtain ⟨b,o,rfl,hlt,hc⟩:=h.at_ hn
 have hb:=hlo.1 hn _ rfl
 refine ⟨b,o,rfl,hlt,fun i hi=>?_⟩
 obtain ⟨h0,h1,h2,h3,h4,h5,h6⟩:=hc i hi
 have e:∀ j,w'.cell? ⟨b,j,none⟩=w.cell? ⟨b,j,none⟩:=fun j=>World.cell?_of_block (a:=⟨b,j,none⟩) (hs b hb hlt)
 exact ⟨(e _).trans h0,(e _).trans h1,(e _).trans h2,(e _).trans h3,(e _).trans h4,(e _).trans h5,(e _).trans h6⟩
def EntAt (w:World) (lo b:Nat) (l:List Rl) (C:Option Addr) (PL:List Pa) (g:Nat→Prop):Prop:=
 Pats w w.heap.size C PL∧CovAll l PL∧(PL.length≤5000000000∧PL.length≤patsB l)∧(0 < PL.length→∀ a,C=some a→(lo≤a.block∧a.block≠b)∧¬ g a.block)
def EntOk (w:World) (lo b:Nat) (l:List Rl) (v:Value) (g:Nat→Prop:=fun _=>False):Prop:=
 ∃ C cc PL,v = .slice C PL.length cc∧EntAt w lo b l C PL g
theorem EntAt.step {w w':World} {lo b:Nat} {l:List Rl} {C:Option Addr} {PL:List Pa} {g g':Nat→Prop} (h:EntAt w lo b l C PL g) (hs:∀ k,lo≤k→k≠b→¬ g k→k < w.heap.size→w'.heap[k]? = w.heap[k]?) (hz:w.heap.size≤w'.heap.size) (hg:∀ x,g' x→g x∨w.heap.size≤x):EntAt w' lo b l C PL g':=by
 obtain ⟨hp,hc,hl,hf⟩:=h
 have hlt:0 < PL.length→∀ a,C=some a→a.block < w.heap.size:=fun hn a ha=>by
  obtain ⟨b',o,e',hlt,_⟩:=hp hn
  rw [e'] at ha
  injection ha with ha
  subst ha
  exact hlt
 refine ⟨(hp.same fun hn a ha=>?_).more hz,hc,hl,fun hn a ha=>⟨(hf hn a ha).1,?_⟩⟩
 ·have hf':=hf hn a ha
  exact hs _ hf'.1.1 hf'.1.2 hf'.2 (hlt hn a ha)
 ·intro he
  rcases hg _ he with h1|h1
  ·exact (hf hn a ha).2 h1
  ·have h2:=hlt hn a ha
   omega
theorem EntOk.step {w w':World} {lo b:Nat} {l:List Rl} {v:Value} {g g':Nat→Prop} (h:EntOk w lo b l v g) (hs:∀ k,lo≤k→k≠b→¬ g k→k < w.heap.size→w'.heap[k]? = w.heap[k]?) (hz:w.heap.size≤w'.heap.size) (hg:∀ x,g' x→g x∨w.heap.size≤x):EntOk w' lo b l v g':=by
 obtain ⟨C,cc,PL,e,h⟩:=h
 exact ⟨C,cc,PL,e,h.step hs hz hg⟩
theorem EntOk.agree {w w':World} {lo b:Nat} {l:List Rl} {v:Value} {g:Nat→Prop} (h:EntOk w lo b l v g) (hs:∀ k,lo≤k→k≠b→k < w.heap.size→w'.heap[k]? = w.heap[k]?) (hz:w.heap.size≤w'.heap.size):EntOk w' lo b l v g:=
 h.step (fun k h1 h2 _ h3=>hs k h1 h2 h3) hz (fun _ h => .inl h)
structure Tb (w:World) (lo q b k:Nat) (L:List Rl) (g:Nat→Prop:=fun _=>False):Prop where
 lt:q < w.heap.size
 ne:q≠b
 lq:lo≤q
 lb:lo≤b
 gq:∀ x,g x→q < x∧b < x
 ex:∃ A c P S B,w.cell? ⟨q,0,none⟩=some (.slice A L.length c)∧w.cell? ⟨q,1,none⟩=some (.map (some b))∧(B≤b∧Rls w B A L P∧RlsLo lo A L P)∧M3 w b k S∧∀ r t l,numsB r t l=true→∀ v,S r t l=some v→EntOk w lo b (mineR L r t l) v g
theorem Tb.step {w w':World} {lo q b k:Nat} {L:List Rl} {g g':Nat→Prop} (h:Tb w lo q b k L g) (hs:∀ k,lo≤k→¬ g k→k < w.heap.size→w'.heap[k]? = w.heap[k]?) (hz:w.heap.size≤w'.heap.size) (hg:∀ x,g' x→g x∨w.heap.size≤x):Tb w' lo q b k L g':=by
 obtain ⟨lt,ne,lq,lb,gq,A,c,P,S,B,c0,c1,⟨hB,hr,hlo⟩,hm,he⟩:=h
 have hbl:=hm.lt
 have hq:¬ g q:=fun e=>by have:=gq q e;omega
 have hb:∀ j,j≤b→¬ g j:=fun j hj e=>by have:=gq j e;omega
 refine ⟨by omega,ne,lq,lb,fun x hx=>?_,A,c,P,S,B,?_,?_,⟨hB,hr.agree hlo fun j h1 h2=>hs j h1 (hb j (by omega)) (by omega),hlo⟩,hm.same (hs b lb (hb b (Nat.le_refl _)) hbl),fun r t l hn v hv=>(he r t l hn v hv).step (fun j h1 _ h2 h3=>hs j h1 h2 h3) hz hg⟩
 ·rcases hg x hx with h1|h1
  ·exact gq x h1
  ·omega
 ·exact (World.cell?_of_block (a:=⟨q,0,none⟩) (hs q lq hq lt)).trans c0
 ·exact (World.cell?_of_block (a:=⟨q,1,none⟩) (hs q lq hq lt)).trans c1
theorem Tb.agree {w w':World} {lo q b k:Nat} {L:List Rl} {g:Nat→Prop} (h:Tb w lo q b k L g) (hs:∀ k,lo≤k→k < w.heap.size→w'.heap[k]? = w.heap[k]?) (hz:w.heap.size≤w'.heap.size):Tb w' lo q b k L g:=h.step (fun j h1 _ h2=>hs j h1 h2) hz (fun _ h => .inl h)
theorem Tb.keep {w w':World} {lo q b k:Nat} {L:List Rl} {g:Nat→Prop} (h:Tb w lo q b k L g) (hb:Below w.heap.size w w'):Tb w' lo q b k L g:=h.agree (fun j _ h2=>hb.block j h2) hb.size
theorem Tb.bare {w:World} {lo q b k:Nat} {L:List Rl} {g:Nat→Prop} (h:Tb w lo q b k L g):Tb w lo q b k L:=h.step (fun _ _ _ _=>rfl) (Nat.le_refl _) (fun x e=>e.elim)
theorem Tb.put {w w':World} {lo q b k:Nat} {A:Option Addr} {c B:Nat} {L:List Rl} {P:Nat→Option Addr × Nat} {S:Int→Int→Int→Option Value} {r t l:Int} {v:Value} {g:Nat→Prop} (lt:q < w.heap.size) (ltb:b < w.heap.size) (ne:q≠b) (lq:lo≤q) (lb:lo≤b) (gq:∀ x,g x→q < x∧b < x) (c0:w.cell? ⟨q,0,none⟩=some (.slice A L.length c)) (c1:w.cell? ⟨q,1,none⟩=some (.map (some b))) (hr:B≤b∧Rls w B A L P∧RlsLo lo A L P) (he:∀ r t l,numsB r t l=true→∀ v,S r t l=some v→EntOk w lo b (mineR L r t l) v g)
  (hm:M3 w' b (k+1) (fun x y z=>if x=r∧y=t∧z=l then some v else S x y z)) (hg:w.grownBy w' (some b)) (hv:EntOk w lo b (mineR L r t l) v g):Tb w' lo q b (k+1) L g:=by
 have hs:∀ j,lo≤j→j≠b→j < w.heap.size→w'.heap[j]? = w.heap[j]? := fun j _ h2 h3=>hg.block j h3 (fun e=>by injection e with e;exact h2 e)
 have hz:=hg.size
 refine ⟨by omega,ne,lq,lb,gq,A,c,P,_,B,?_,?_,⟨hr.1,hr.2.1.keep ⟨hg.os,hg.tape,hg.output,hg.size,fun j hj=>hg.block j (by have:=hr.1;omega) (fun e=>by injection e with e;have:=hr.1;omega)⟩,hr.2.2⟩,hm,fun x y z hn u hu=>?_⟩
 ·exact (World.cell?_of_block (a:=⟨q,0,none⟩) (hs q lq ne lt)).trans c0
 ·exact (World.cell?_of_block (a:=⟨q,1,none⟩) (hs q lq ne lt)).trans c1
 ·split at hu
  ·rename_i e
   obtain ⟨rfl,rfl,rfl⟩:=e
   injection hu with hu
   subst hu
   exact hv.agree hs hz
  ·exact (he x y z hn u hu).agree hs hz
end Go.Proofs.YthlijfligikciaaGreat
