/- The given statement of TopNearest, where what it reads is of bulk at most 1048576. No condition beyond the statement's own. -/
import Derived.Test.YthlijfligikciaaGreatY24
import Derived.Test.YthlijfligikciaaGreatY49
import Derived.JoinedCond
import Derived.ChangeOld
import Derived.Below
namespace Go.Proofs.YthlijfligikciaaGreat.pTopNearest
open Go.ChangeShapes Go.WideShapes Go.ChangeAt Go.RowKit Go.Joins
set_option linter.unusedVariables false
set_option linter.unusedSimpArgs false
theorem own:ownKnob Tryz.prog.godebug=none:=by kernel_rfl
theorem laidOut:laidOutB Tryz.prog=true:=by kernel_rfl
set_option maxRecDepth 100000 in
theorem lifted (os:Os) (started:os.Started) (H:Type) (enc:TypeId × Value→H) (F:Stop.Interp):
  ReturnsInHanded {} Tryz.checked os 4 .any ((Rows.OpenSpec.upto Rows.topNearestSpec).pre6 enc Tryz.prog Tryz.f4 Rows.topNearestUptoRow.domain false) (((Rows.OpenSpec.upto Rows.topNearestSpec).at F).post enc Tryz.prog Tryz.f4 false true false false):=by
 refine returnsInHanded_of_cond (C:=Tryz.checked) (s:=Rows.OpenSpec.upto Rows.topNearestSpec) (k:=Rows.uptoSmall) rfl own started (by kernel_rfl) Tryz.func4
  (OpenSpec.witness (enc:=enc) (C:=Tryz.checked) (s:=Rows.OpenSpec.upto Rows.topNearestSpec) (k:=Rows.uptoSmall) rfl false ⟨#[],#[.slice none 0 0, .slice none 0 0, .slice none 0 0, .agg #[.int .i64 0, .int .i64 0, .int .i64 0, .int .i64 0, .int .i64 0, .int .i64 0, .int .i64 0, .int .i64 0, .bool false, .int .i64 0], .agg #[.int .i64 0, .int .i64 0]],[]⟩ 8 (by kernel_rfl) (by kernel_rfl) (by kernel_rfl)
   (x:=([.nil, .nil, .nil, .agg [.lit (.int .i64 0), .lit (.int .i64 0), .agg [.lit (.int .i64 0), .lit (.int .i64 0), .agg [.lit (.int .i64 0), .lit (.int .i64 0), .lit (.int .i64 0), .lit (.int .i64 0)], .lit (.bool false), .lit (.int .i64 0)]], .agg [.lit (.int .i64 0), .lit (.int .i64 0)]],[],[])) (by kernel_rfl) rfl (by kernel_rfl)) ?_
 intro W base args ds gs before hval0 hW hcnd hk _
 have hval:∀ (j:Nat) t v,Tryz.f4.params[j]? = some t→args[j]? = some v→Value.okWide Tryz.prog W .any base t v:=hval0
 have hW':=hW
 obtain ⟨p,q,hA0,hV,rfl,hfz,hnd⟩:=hW
 have hA:DataW.TrodAll enc Tryz.prog W 0 (fun _=>true) true Tryz.f4.params.toList args.toList ds p:=hA0
 rw [Tryz.params4] at hA hval
 obtain ⟨v0,vs0,d0,ds0,p0,q0,hargs,rfl,rfl,h0,r0⟩:=trodAll_cons hA
 obtain ⟨v1,vs1,d1,ds1,p1,q1,rfl,rfl,rfl,h1,r1⟩:=trodAll_cons r0
 obtain ⟨v2,vs2,d2,ds2,p2,q2,rfl,rfl,rfl,h2,r2⟩:=trodAll_cons r1
 obtain ⟨v3,vs3,d3,ds3,p3,q3,rfl,rfl,rfl,h3,r3⟩:=trodAll_cons r2
 obtain ⟨v4,vs4,d4,ds4,p4,q4,rfl,rfl,rfl,h4,r4⟩:=trodAll_cons r3
 obtain ⟨rfl,rfl,rfl⟩:=trodAll_nil r4
 obtain rfl:args=#[v0,v1,v2,v3,v4]:=by cases args;simp_all
 obtain ⟨rfl,rfl⟩:=trodVars_none hV
 have hb0:Rows.uptoBulkAll ([d0,d1,d2,d3,d4] ++ [])≤1048576:=of_decide_eq_true hk
 simp only [List.cons_append,List.nil_append,Rows.uptoBulkAll] at hb0
 obtain ⟨a0,len0,cap0,rfl⟩:=okWide_slice Tryz.underlying22 (hval 0 22 v0 rfl rfl)
 obtain ⟨a1,len1,cap1,rfl⟩:=okWide_slice Tryz.underlying53 (hval 1 53 v1 rfl rfl)
 obtain ⟨a2,len2,cap2,rfl⟩:=okWide_slice Tryz.underlying54 (hval 2 54 v2 rfl rfl)
 have k0:=h0
 have k1:=h1
 have k2:=h2
 have k3:=h3
 have k4:=h4
 have lt0:∀ x ∈ p0,x.block < W.heap.size:=by obtain ⟨m,hm⟩:=k0;exact DataW.trod_lt m _ _ _ hm
 have lt1:∀ x ∈ p1,x.block < W.heap.size:=by obtain ⟨m,hm⟩:=k1;exact DataW.trod_lt m _ _ _ hm
 have lt2:∀ x ∈ p2,x.block < W.heap.size:=by obtain ⟨m,hm⟩:=k2;exact DataW.trod_lt m _ _ _ hm
 have lt3:∀ x ∈ p3,x.block < W.heap.size:=by obtain ⟨m,hm⟩:=k3;exact DataW.trod_lt m _ _ _ hm
 have lt4:∀ x ∈ p4,x.block < W.heap.size:=by obtain ⟨m,hm⟩:=k4;exact DataW.trod_lt m _ _ _ hm
 obtain ⟨L0,P0,hl0,hR0,hP0,hn0,hc0⟩:∃ L P,L.length=len0∧Rls W W.heap.size a0 L P∧(∀ i,i < len0→(P i).1=none→(L.getD i rl0).boxes.length=0)∧len0≤Rows.uptoBulk d0∧cntB L≤Rows.uptoBulk d0:=by
  obtain ⟨fuel,hf⟩:=h0
  exact open_rules (by simpa [Value.cells] using hf)
 obtain ⟨R1,hl1,hR1,hw1⟩:∃ R:List Rc,R.length=len1∧Rcs W a1 R∧∀ r ∈ R,wf64 r.id:=by
  obtain ⟨fuel,hf⟩:=h1
  exact open_recs (cap:=cap1) (by simpa [Value.cells] using hf)
 obtain ⟨S2,hl2,hS2,hw2⟩:∃ S:List Sh,S.length=len2∧Shs W a2 S∧∀ s ∈ S,wf64 s.id:=by
  obtain ⟨fuel,hf⟩:=h2
  exact open_shapes (cap:=cap2) (by simpa [Value.cells] using hf)
 obtain ⟨role,tier,g,rfl⟩:=open_viewer (hval 3 28 v3 rfl rfl) h3
 obtain ⟨px,py,rfl⟩:=open_point (hval 4 30 v4 rfl rfl) h4
 clear hA0 hval0
 refine (nearest_all seen_ok len0 cap0 len1 cap1 len2 cap2 a0 a1 a2 L0 P0 R1 S2 role tier px py g W hR0 hl0 (by omega) hP0 hR1 hl1 hw1 hS2 hl2 hw2).mono fun e W' ⟨he,bel⟩=>?_
 subst he
 exact ⟨_,rfl,_,_,_,[],_,[],hW',trodAll_mk1 (shut_bool Tryz.underlying4 _),(trodAll_cons_mk (Below.trod laidOut (by kernel_rfl) (of_decide_eq_true (by kernel_rfl)) k0 bel lt0) (trodAll_cons_mk (Below.trod laidOut (by kernel_rfl) (of_decide_eq_true (by kernel_rfl)) k1 bel lt1) (trodAll_cons_mk (Below.trod laidOut (by kernel_rfl) (of_decide_eq_true (by kernel_rfl)) k2 bel lt2) (trodAll_cons_mk (Below.trod laidOut (by kernel_rfl) (of_decide_eq_true (by kernel_rfl)) k3 bel lt3) (trodAll_cons_mk (Below.trod laidOut (by kernel_rfl) (of_decide_eq_true (by kernel_rfl)) k4 bel lt4) trodAll_mk0))))),rfl,bel.frame _,fun h=>by cases h⟩
theorem over:Rows.topNearestUptoRow.holds Tryz.pinned (Rows.OpenSpec.upto Rows.topNearestSpec):=
 OpenClaim.holds_of_cond 4 Tryz.f4 rfl rfl rfl rfl rfl rfl rfl ⟨rfl,rfl,rfl,rfl,rfl⟩ rfl rfl rfl rfl rfl (by kernel_rfl) Tryz.func4 (by kernel_rfl)
  (of_decide_eq_true (by kernel_rfl)) (by unfold Func.isWrapper;first|(rw [if_pos (by decide +kernel)];kernel_rfl)|(rw [if_neg (by decide +kernel)];exact ⟨rfl,rfl⟩))
  (fun os started H enc _ F=>lifted os started H enc F)
theorem proved:Rows.TopNearestUptoSaid:=over
#print axioms proved
end Go.Proofs.YthlijfligikciaaGreat.pTopNearest
