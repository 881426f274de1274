/- Texts of one claim laid together: BxR, VieC, VieD, VrA, VrB, VrC. -/
import Derived.Test.YtfdnledkcongaaaGreatDoorQ7
import Derived.Laws.Rows
set_option linter.all false
namespace Go.Proofs.YtfdnledkcongaaaGreatDoor
open Go.RowKit Go.Proofs.Tryz
theorem qc7 {P:Program} {W:World} {b n:Nat} {T:TypeId} {d:TypeDesc} {vs:List Value} (hb:Bx W b vs) (hn:vs.length=n) (hu:P.underlying T=some d) (hd:(match d with|.struct _|.array _ _=>true|_=>false)=true) (hi:(P.info? T).map (·.size)=some n):
  (loadVar T ⟨b,0,none⟩).run P W=.ok (.agg vs.toArray) W:=by
 obtain⟨t,h⟩:=hb;exact run_loadVar_row W b t T vs.toArray (0,0) d h hu hd (by rw[hi];simp[hn])
theorem Bx.row {W:World} {b:Nat} {old:List Value} (h:Bx W b old) (vs:List Value):Bx (W.setRow b vs.toArray) b vs:=by
 obtain⟨t,h⟩:=h;exact⟨t,setRow_heap W b _ _ t _ h⟩
theorem Bx.off {W:World} {b g:Nat} {old:List Value} (h:Bx W b old) (hg:b≠g) (vs:List Value):Bx (W.setRow g vs.toArray) b old:=by
 obtain⟨t,h⟩:=h;exact⟨t,by rw[setRow_other _ _ _ _ hg];exact h⟩
theorem Kept.row {w W:World} {b:Nat} (h:Kept w W) (hb:w.heap.size≤b) (vs:List Value):Kept w (W.setRow b vs.toArray):=by
 exact⟨h.os,h.tape,h.output,by rw[setRow_size];exact h.size,fun k hk=>(setRow_other _ _ _ _ (by omega)).trans (h.block k hk)⟩
theorem qas {P:Program} {o:Oper} {a:Act} {W:World} {K:Act→World→Prop} {Q:Exit→Act→World→Prop} (vs:List Value) (t:TypeId) (parts:Array (Nat×Operand)) (ho:o.op=.build t parts)
  (hv:P.built t (parts.map fun(i,x)=>(i,a.eval x)).toList=some vs.toArray) (h:K (a.put o.dst (.agg vs.toArray)) W):o.wp P a W K Q:=
 wp_build t parts ho (by rw[hv];rfl) (by rw[hv];exact h)
theorem qag {P:Program} {o:Oper} {a:Act} {W:World} {K:Act→World→Prop} {Q:Exit→Act→World→Prop} {b n:Nat} {T:TypeId} {d:TypeDesc} {vs:List Value} (x:Operand) (ho:o.op=.load T x) (hx:a.eval x=.pointer (some ⟨b,0,none⟩)) (hb:Bx W b vs) (hn:vs.length=n) (hu:P.underlying T=some d) (hd:(match d with|.struct _|.array _ _=>true|_=>false)=true) (hi:(P.info? T).map (·.size)=some n)
  (h:K (a.put o.dst (.agg vs.toArray)) W):o.wp P a W K Q:=by
 obtain⟨t,hb⟩:=hb;exact wp_load_row T x ho b hx t vs.toArray (0,0) d hb hu hd (by rw[hi];simp[hn]) h
theorem qaa {P:Program} {o:Oper} {a:Act} {W:World} {K:Act→World→Prop} {Q:Exit→Act→World→Prop} {b n:Nat} {T:TypeId} {old vs:List Value} (x y:Operand) (ho:o.op=.store T x y) (hx:a.eval x=.pointer (some ⟨b,0,none⟩)) (hy:a.eval y=.agg vs.toArray) (hb:Bx W b old) (hn:vs.length=n) (hm:old.length=n) (hi:(P.info? T).map (·.size)=some n) (h1:vs.all (·.oneCell')=true)
  (h:K (a.put o.dst undef) (W.setRow b vs.toArray)):o.wp P a W K Q:=by
 obtain⟨t,hb⟩:=hb;exact wp_store_row T x y ho b vs.toArray hx hy t old.toArray hb (by rw[hi];simp[hn]) (by simp[hn,hm]) (by simpa using h1) h
theorem qjC {P:Program} {fn:Func} {W:World} {tm:Array Value} {t u b:Nat} {T:TypeId} {v x:Value} (hr:fn.results=#[.cell t T,.tmp u]) (h2:tm.getD t undef=.pointer (some ⟨b,0,none⟩)) (h3:tm.getD u undef=x) (hl:(loadVar T ⟨b,0,none⟩).run P W=.ok v W):
  (results fn tm).run P W=.ok (.tuple #[v,x]) W:=by
 rw[Array.getD_eq_getD_getElem?]at h2 h3;unfold results;rw[hr];simp only[Sem.run_bind];simp[Array.mapM_eq_mapM_toList,h2,h3,hl,asAddr]
theorem qbT {P:Program} {fn:Func} {W:World} {tm:Array Value} {t u b n:Nat} {T:TypeId} {vs:List Value} {x:Value} {Q:Ending→World→Prop} {d:TypeDesc} (hr:fn.results=#[.cell t T,.tmp u]) (hu:P.underlying T=some d) (hd:(match d with|.struct _|.array _ _=>true|_=>false)=true) (hi:(P.info? T).map (·.size)=some n)
  (h2:tm.getD t undef=.pointer (some ⟨b,0,none⟩)) (h3:tm.getD u undef=x) (hb:Bx W b vs) (hn:vs.length=n) (hq:Q (.returned (.tuple #[.agg vs.toArray,x])) W):bodyPost P fn Q Exit.ret {tmps:=tm,defers:=[]} W:=
 bodyPost_ret (v:=.tuple #[.agg vs.toArray,x]) (qjC hr h2 h3 (qc7 hb hn hu hd hi)) rfl hq
section
set_option maxHeartbeats 6400000
set_option maxRecDepth 100000
theorem qbE {x y:DyD×Int} (hx:x.2=0) (hy:y.2=0):qaG x y=(⟨x.1,y.1⟩,0):=by unfold qaG;rw[if_pos ⟨hx,hy⟩]
theorem qdp {x y:DyD×Int} (h: ¬x.2=0∨¬y.2=0):qaG x y=(zG,4):=by
 unfold qaG;rw[if_neg];rintro⟨h1,h2⟩;rcases h with h|h
 ·exact h h1
 ·exact h h2
theorem qfq (d:DyD) (e:Int):qaP d 2 (e-1)=qaP d 1 e:=by unfold qaP;rw[qo9]
section
variable {s : SqD} (hs : sqB s = true)
include hs
theorem qhO :qaG (qaP s.left 0 (s.e-1)) (qaP s.low 0 (s.e-1))=(⟨s.left,s.low⟩,0):=by
 rw[qdl _ (qax.1 hs).1,qdl _ (qax.1 hs).2.1];exact qbE rfl rfl
theorem qn9 :qaG (qaP s.left 2 (s.e-1)) (qaP s.low 0 (s.e-1))=qaG (qbi s) (s.low,0):=by
 rw[qdl _ (qax.1 hs).2.1,qfq];rfl
theorem qpA :qaG (qaP s.left 0 (s.e-1)) (qaP s.low 2 (s.e-1))=qaG (s.left,0) (qbs s):=by
 rw[qdl _ (qax.1 hs).1,qfq];rfl
theorem qp3 :qaG (qaP s.left 2 (s.e-1)) (qaP s.low 2 (s.e-1))=qaG (qbi s) (qbs s):=by
 rw[qfq,qfq];rfl
end
theorem qni (s:SqD) (w:World) (hs:sqB s=true) (hT:T32 w) (hx: ¬(qbi s).2=0):
  Calls prog 22 #[.agg #[.bool s.left.neg,.string s.left.n,.int .i64 s.left.e,.bool s.low.neg,.string s.low.n,.int .i64 s.low.e,.int .i64 s.e]] w fun en w'=>en=.returned (.tuple #[.agg ZL1.toArray,.int .i64 4])∧Kept w w':=by
 have RT:Hid (∀W,Calls prog 54 #[.agg #[.bool s.left.neg,.string s.left.n,.int .i64 s.left.e,.bool s.low.neg,.string s.low.n,.int .i64 s.low.e,.int .i64 s.e]] W fun en w'=>en=.returned (.int .i64 0)∧Kept W w'):=fun W=>by
  have:=qbx s W (qds hs);rwa [hs]at this
 obtain⟨hs1,hs2,hs3,hs4⟩:=qax.1 hs
 have A0:Hid (∀W,Kept w W→Calls prog 55 #[.agg #[.bool s.left.neg,.string s.left.n,.int .i64 s.left.e,.bool s.low.neg,.string s.low.n,.int .i64 s.low.e,.int .i64 s.e],.int .i64 0,.int .i64 0] W fun en w'=>en=.returned (qaF (⟨s.left,s.low⟩,0))∧Kept W w'):=fun W h=>by
  have:=qbp s 0 0 W hs (by decide) (by decide) (hT.kept h);rwa [qhO hs]at this
 have A1:Hid (∀W,Kept w W→Calls prog 55 #[.agg #[.bool s.left.neg,.string s.left.n,.int .i64 s.left.e,.bool s.low.neg,.string s.low.n,.int .i64 s.low.e,.int .i64 s.e],.int .i64 2,.int .i64 0] W fun en w'=>en=.returned (qaF (qaG (qbi s) (s.low,0)))∧Kept W w'):=fun W h=>by
  have:=qbp s 2 0 W hs (by decide) (by decide) (hT.kept h);rwa [qn9 hs]at this
 rw[qdp (.inl hx)]at A1;obtain⟨⟨a0,a1,a2⟩,⟨a3,a4,a5⟩,a6⟩:=s;simp only at RT A0 A1⊢;clear hs hs1 hs2 hs3 hs4 hT hx;go_enter func22,ntmps22
 go_upto_region 1 with fail
 obtain⟨b,w1,hw,hb,B0,B1,K1,HB⟩:=qa6 w (LC3 a0 a1 a2 a3 a4 a5 a6) 26 ZL1 64;rw[←hw,←hb];clear hw hb;obtain⟨c0,c1,c2,c3,c4,c5,c6⟩:=B0.out.c7;go_upto_region 4 with (go_at_call 54;(with_reducible refine(RT.out _).mono ?_);rintro e w3 ⟨rfl,hk3⟩)
 clear c0 c1 c2 c3 c4 c5 c6 RT;have K4:=qh (Kept.new hk3 (.cells ZL1.toArray 64));have L4:=qh (Bx.new w3 ZL1 64 w3.heap.size rfl);obtain⟨g,hg⟩: ∃g,g=w3.heap.size:=⟨_,rfl⟩
 rw[←hg]at L4⊢;have HG:=qh (show w1.heap.size≤g by have:=hk3.size;omega);clear hg hk3;generalize(w3.alloc (.cells ZL1.toArray 64))=w4 at *;go_wp2_with fail
 go_loopg [5,6,7,12] 4 (fun gh v5 v6 v7 v12 wr=> ∃i:Nat,i+gh=4∧v12=.int .i64 i∧Kept w1 wr∧((i=0∧Bx wr g ZL1)∨(i=1∧Bx wr g (LC4 a0 a1 a2 a3 a4 a5 false ⟨#[]⟩ 0 false ⟨#[]⟩ 0 false ⟨#[]⟩ 0 false ⟨#[]⟩ 0 false ⟨#[]⟩ 0 false ⟨#[]⟩ 0))))
 case atStart=>exact⟨0,by omega,rfl,K4.out,.inl ⟨rfl,L4.out⟩⟩
 case round=>
  obtain⟨i,hig,rfl,hk,hb⟩:=hrel;have HK:=qh hk;have hgw:g<wr.heap.size:=by rcases hb with ⟨-,hb⟩|⟨-,hb⟩<;>exact hb.lt
  clear hk;rcases hb with ⟨rfl,hb⟩|⟨rfl,hb⟩
  ·obtain rfl:gk=4:=by omega
   have BL:=qh hb;clear hb;obtain⟨c0,c1,c2,c3,c4,c5,c6⟩:=(B0.out.kept HK.out).c7;go_wp2_with (go_at_call 55;(with_reducible refine(A0.out _ (K1.out.trans' HK.out)).mono ?_);rintro e w5 ⟨rfl,hk5⟩;have B5:=qh (BL.out.kept hk5);have d0:=B5.out.c 0 rfl;have d1:=B5.out.c 1 rfl;have d2:=B5.out.c 2 rfl;have d3:=B5.out.c 3 rfl;have d4:=B5.out.c 4 rfl;have d5:=B5.out.c 5 rfl;have f0:=B5.out.f 0;have f1:=B5.out.f 1;have f2:=B5.out.f 2;have f3:=B5.out.f 3;have f4:=B5.out.f 4;have f5:=B5.out.f 5;have g5:=B5.out.lt;have K5:=qh (HK.out.trans' hk5);clear hk5 c0 c1 c2 c3 c4 c5 c6)
   go_roundg 3
   case measure=>omega
   case rel=>
    refine⟨1,by omega,by go_num,?_,?_⟩
    ·exact(Kept.new (Kept.set (Kept.set (Kept.set (Kept.set (Kept.set (Kept.set K5.out HG.out 0 _) HG.out 1 _) HG.out 2 _) HG.out 3 _) HG.out 4 _) HG.out 5 _) _)
    ·refine(.inr (⟨rfl,?_⟩))
     exact(Bx.kept (Bx.set (Bx.set (Bx.set (Bx.set (Bx.set (Bx.set B5.out 0 _ (by simp)) 1 _ (by simp)) 2 _ (by simp)) 3 _ (by simp)) 4 _ (by simp)) 5 _ (by simp)) (Kept.new (Below.refl _ _) _))
  ·obtain rfl:gk=3:=by omega
   have BL:=qh hb;clear hb;obtain⟨c0,c1,c2,c3,c4,c5,c6⟩:=(B0.out.kept HK.out).c7;go_upto_region 9 with (go_at_call 55;(with_reducible refine(A1.out _ (K1.out.trans' HK.out)).mono ?_);rintro e w5 ⟨rfl,hk5⟩;have B5:=qh (BL.out.kept hk5);have K5:=qh (HK.out.trans' hk5);clear hk5 c0 c1 c2 c3 c4 c5 c6)
   replace K5:=qh (Kept.new K5.out (.cells (LC1 zG.re.neg zG.re.n zG.re.e zG.im.neg zG.im.n zG.im.e).toArray 28));generalize World.alloc w5 _=w6 at *;refine wp_region_list (wpList_plain rfl fun K hK=>qas ZL1 _ _ rfl (by kernel_rfl) (hK _ _ ?_));clear hK K;refine wpList_plain rfl fun K hK=>BigFrame.wp_move _ rfl (hK _ _ ?_);clear hK K;refine wpList_plain rfl fun K hK=>qaa (b:=b+1) (n:=24) _ _ rfl rfl rfl (B1.out.kept K5.out) rfl rfl (by kernel_rfl) rfl (hK _ _ ?_);clear hK K;have B9:=qh ((B1.out.kept K5.out).row ZL1);have K9:=qh (Kept.row (K1.out.trans' K5.out) (show w.heap.size≤b+1 by have:=HB.out;omega) ZL1);generalize World.setRow _ _ _=w9 at *;go_wp2_with fail
   refine qbT results22 underlying64 rfl (by kernel_rfl) rfl rfl B9.out rfl ⟨rfl,K9.out⟩
theorem qlY (s:SqD) (w:World) (hs:sqB s=true) (hT:T32 w) (hx:(qbi s).2=0) (hy: ¬(qbs s).2=0):
  Calls prog 22 #[.agg #[.bool s.left.neg,.string s.left.n,.int .i64 s.left.e,.bool s.low.neg,.string s.low.n,.int .i64 s.low.e,.int .i64 s.e]] w fun en w'=>en=.returned (.tuple #[.agg ZL1.toArray,.int .i64 4])∧Kept w w':=by
 have RT:Hid (∀W,Calls prog 54 #[.agg #[.bool s.left.neg,.string s.left.n,.int .i64 s.left.e,.bool s.low.neg,.string s.low.n,.int .i64 s.low.e,.int .i64 s.e]] W fun en w'=>en=.returned (.int .i64 0)∧Kept W w'):=fun W=>by
  have:=qbx s W (qds hs);rwa [hs]at this
 obtain⟨hs1,hs2,hs3,hs4⟩:=qax.1 hs
 have A0:Hid (∀W,Kept w W→Calls prog 55 #[.agg #[.bool s.left.neg,.string s.left.n,.int .i64 s.left.e,.bool s.low.neg,.string s.low.n,.int .i64 s.low.e,.int .i64 s.e],.int .i64 0,.int .i64 0] W fun en w'=>en=.returned (qaF (⟨s.left,s.low⟩,0))∧Kept W w'):=fun W h=>by
  have:=qbp s 0 0 W hs (by decide) (by decide) (hT.kept h);rwa [qhO hs]at this
 have A1:Hid (∀W,Kept w W→Calls prog 55 #[.agg #[.bool s.left.neg,.string s.left.n,.int .i64 s.left.e,.bool s.low.neg,.string s.low.n,.int .i64 s.low.e,.int .i64 s.e],.int .i64 2,.int .i64 0] W fun en w'=>en=.returned (qaF (qaG (qbi s) (s.low,0)))∧Kept W w'):=fun W h=>by
  have:=qbp s 2 0 W hs (by decide) (by decide) (hT.kept h);rwa [qn9 hs]at this
 have A2:Hid (∀W,Kept w W→Calls prog 55 #[.agg #[.bool s.left.neg,.string s.left.n,.int .i64 s.left.e,.bool s.low.neg,.string s.low.n,.int .i64 s.low.e,.int .i64 s.e],.int .i64 0,.int .i64 2] W fun en w'=>en=.returned (qaF (qaG (s.left,0) (qbs s)))∧Kept W w'):=fun W h=>by
  have:=qbp s 0 2 W hs (by decide) (by decide) (hT.kept h);rwa [qpA hs]at this
 rw[qbE hx rfl]at A1;rw[qdp (.inr hy)]at A2;generalize(qbi s).1=X at *;obtain⟨x0,x1,x2⟩:=X;obtain⟨⟨a0,a1,a2⟩,⟨a3,a4,a5⟩,a6⟩:=s;simp only at RT A0 A1 A2⊢;clear hs hs1 hs2 hs3 hs4 hT hx hy;go_enter func22,ntmps22
 go_upto_region 1 with fail
 obtain⟨b,w1,hw,hb,B0,B1,K1,HB⟩:=qa6 w (LC3 a0 a1 a2 a3 a4 a5 a6) 26 ZL1 64;rw[←hw,←hb];clear hw hb;obtain⟨c0,c1,c2,c3,c4,c5,c6⟩:=B0.out.c7;go_upto_region 4 with (go_at_call 54;(with_reducible refine(RT.out _).mono ?_);rintro e w3 ⟨rfl,hk3⟩)
 clear c0 c1 c2 c3 c4 c5 c6 RT;have K4:=qh (Kept.new hk3 (.cells ZL1.toArray 64));have L4:=qh (Bx.new w3 ZL1 64 w3.heap.size rfl);obtain⟨g,hg⟩: ∃g,g=w3.heap.size:=⟨_,rfl⟩
 rw[←hg]at L4⊢;have HG:=qh (show w1.heap.size≤g by have:=hk3.size;omega);clear hg hk3;generalize(w3.alloc (.cells ZL1.toArray 64))=w4 at *;go_wp2_with fail
 go_loopg [5,6,7,12] 4 (fun gh v5 v6 v7 v12 wr=> ∃i:Nat,i+gh=4∧v12=.int .i64 i∧Kept w1 wr∧((i=0∧Bx wr g ZL1)∨(i=1∧Bx wr g (LC4 a0 a1 a2 a3 a4 a5 false ⟨#[]⟩ 0 false ⟨#[]⟩ 0 false ⟨#[]⟩ 0 false ⟨#[]⟩ 0 false ⟨#[]⟩ 0 false ⟨#[]⟩ 0))∨(i=2∧Bx wr g (LC4 a0 a1 a2 a3 a4 a5 x0 x1 x2 a3 a4 a5 false ⟨#[]⟩ 0 false ⟨#[]⟩ 0 false ⟨#[]⟩ 0 false ⟨#[]⟩ 0))))
 case atStart=>exact⟨0,by omega,rfl,K4.out,.inl ⟨rfl,L4.out⟩⟩
 case round=>
  obtain⟨i,hig,rfl,hk,hb⟩:=hrel;have HK:=qh hk;have hgw:g<wr.heap.size:=by rcases hb with ⟨-,hb⟩|⟨-,hb⟩|⟨-,hb⟩<;>exact hb.lt
  clear hk;rcases hb with ⟨rfl,hb⟩|⟨rfl,hb⟩|⟨rfl,hb⟩
  ·obtain rfl:gk=4:=by omega
   have BL:=qh hb;clear hb;obtain⟨c0,c1,c2,c3,c4,c5,c6⟩:=(B0.out.kept HK.out).c7;go_wp2_with (go_at_call 55;(with_reducible refine(A0.out _ (K1.out.trans' HK.out)).mono ?_);rintro e w5 ⟨rfl,hk5⟩;have B5:=qh (BL.out.kept hk5);have d0:=B5.out.c 0 rfl;have d1:=B5.out.c 1 rfl;have d2:=B5.out.c 2 rfl;have d3:=B5.out.c 3 rfl;have d4:=B5.out.c 4 rfl;have d5:=B5.out.c 5 rfl;have f0:=B5.out.f 0;have f1:=B5.out.f 1;have f2:=B5.out.f 2;have f3:=B5.out.f 3;have f4:=B5.out.f 4;have f5:=B5.out.f 5;have g5:=B5.out.lt;have K5:=qh (HK.out.trans' hk5);clear hk5 c0 c1 c2 c3 c4 c5 c6)
   go_roundg 3
   case measure=>omega
   case rel=>
    refine⟨1,by omega,by go_num,?_,?_⟩
    ·exact(Kept.new (Kept.set (Kept.set (Kept.set (Kept.set (Kept.set (Kept.set K5.out HG.out 0 _) HG.out 1 _) HG.out 2 _) HG.out 3 _) HG.out 4 _) HG.out 5 _) _)
    ·refine(.inr (.inl ⟨rfl,?_⟩))
     exact(Bx.kept (Bx.set (Bx.set (Bx.set (Bx.set (Bx.set (Bx.set B5.out 0 _ (by simp)) 1 _ (by simp)) 2 _ (by simp)) 3 _ (by simp)) 4 _ (by simp)) 5 _ (by simp)) (Kept.new (Below.refl _ _) _))
  ·obtain rfl:gk=3:=by omega
   have BL:=qh hb;clear hb;obtain⟨c0,c1,c2,c3,c4,c5,c6⟩:=(B0.out.kept HK.out).c7;go_wp2_with (go_at_call 55;(with_reducible refine(A1.out _ (K1.out.trans' HK.out)).mono ?_);rintro e w5 ⟨rfl,hk5⟩;have B5:=qh (BL.out.kept hk5);have d6:=B5.out.c 6 rfl;have d7:=B5.out.c 7 rfl;have d8:=B5.out.c 8 rfl;have d9:=B5.out.c 9 rfl;have d10:=B5.out.c 10 rfl;have d11:=B5.out.c 11 rfl;have f6:=B5.out.f 6;have f7:=B5.out.f 7;have f8:=B5.out.f 8;have f9:=B5.out.f 9;have f10:=B5.out.f 10;have f11:=B5.out.f 11;have g5:=B5.out.lt;have K5:=qh (HK.out.trans' hk5);clear hk5 c0 c1 c2 c3 c4 c5 c6)
   go_roundg 2
   case measure=>omega
   case rel=>
    refine⟨2,by omega,by go_num,?_,?_⟩
    ·exact(Kept.new (Kept.set (Kept.set (Kept.set (Kept.set (Kept.set (Kept.set K5.out HG.out 6 _) HG.out 7 _) HG.out 8 _) HG.out 9 _) HG.out 10 _) HG.out 11 _) _)
    ·refine(.inr (.inr (⟨rfl,?_⟩)))
     exact(Bx.kept (Bx.set (Bx.set (Bx.set (Bx.set (Bx.set (Bx.set B5.out 6 _ (by simp)) 7 _ (by simp)) 8 _ (by simp)) 9 _ (by simp)) 10 _ (by simp)) 11 _ (by simp)) (Kept.new (Below.refl _ _) _))
  ·obtain rfl:gk=2:=by omega
   have BL:=qh hb;clear hb;obtain⟨c0,c1,c2,c3,c4,c5,c6⟩:=(B0.out.kept HK.out).c7;go_upto_region 9 with (go_at_call 55;(with_reducible refine(A2.out _ (K1.out.trans' HK.out)).mono ?_);rintro e w5 ⟨rfl,hk5⟩;have B5:=qh (BL.out.kept hk5);have K5:=qh (HK.out.trans' hk5);clear hk5 c0 c1 c2 c3 c4 c5 c6)
   replace K5:=qh (Kept.new K5.out (.cells (LC1 zG.re.neg zG.re.n zG.re.e zG.im.neg zG.im.n zG.im.e).toArray 28));generalize World.alloc w5 _=w6 at *;refine wp_region_list (wpList_plain rfl fun K hK=>qas ZL1 _ _ rfl (by kernel_rfl) (hK _ _ ?_));clear hK K;refine wpList_plain rfl fun K hK=>BigFrame.wp_move _ rfl (hK _ _ ?_);clear hK K;refine wpList_plain rfl fun K hK=>qaa (b:=b+1) (n:=24) _ _ rfl rfl rfl (B1.out.kept K5.out) rfl rfl (by kernel_rfl) rfl (hK _ _ ?_);clear hK K;have B9:=qh ((B1.out.kept K5.out).row ZL1);have K9:=qh (Kept.row (K1.out.trans' K5.out) (show w.heap.size≤b+1 by have:=HB.out;omega) ZL1);generalize World.setRow _ _ _=w9 at *;go_wp2_with fail
   refine qbT results22 underlying64 rfl (by kernel_rfl) rfl rfl B9.out rfl ⟨rfl,K9.out⟩
theorem qkk (s:SqD) (w:World) (hs:sqB s=true) (hT:T32 w) (hx:(qbi s).2=0) (hy:(qbs s).2=0):
  Calls prog 22 #[.agg #[.bool s.left.neg,.string s.left.n,.int .i64 s.left.e,.bool s.low.neg,.string s.low.n,.int .i64 s.low.e,.int .i64 s.e]] w fun en w'=>en=.returned (.tuple #[.agg #[.bool s.left.neg,.string s.left.n,.int .i64 s.left.e,.bool s.low.neg,.string s.low.n,.int .i64 s.low.e,.bool (qbi s).1.neg,.string (qbi s).1.n,.int .i64 (qbi s).1.e,.bool s.low.neg,.string s.low.n,.int .i64 s.low.e,.bool s.left.neg,.string s.left.n,.int .i64 s.left.e,.bool (qbs s).1.neg,.string (qbs s).1.n,.int .i64 (qbs s).1.e,.bool (qbi s).1.neg,.string (qbi s).1.n,.int .i64 (qbi s).1.e,.bool (qbs s).1.neg,.string (qbs s).1.n,.int .i64 (qbs s).1.e],.int .i64 0])∧Kept w w':=by
 have RT:Hid (∀W,Calls prog 54 #[.agg #[.bool s.left.neg,.string s.left.n,.int .i64 s.left.e,.bool s.low.neg,.string s.low.n,.int .i64 s.low.e,.int .i64 s.e]] W fun en w'=>en=.returned (.int .i64 0)∧Kept W w'):=fun W=>by
  have:=qbx s W (qds hs);rwa [hs]at this
 obtain⟨hs1,hs2,hs3,hs4⟩:=qax.1 hs
 have A0:Hid (∀W,Kept w W→Calls prog 55 #[.agg #[.bool s.left.neg,.string s.left.n,.int .i64 s.left.e,.bool s.low.neg,.string s.low.n,.int .i64 s.low.e,.int .i64 s.e],.int .i64 0,.int .i64 0] W fun en w'=>en=.returned (qaF (⟨s.left,s.low⟩,0))∧Kept W w'):=fun W h=>by
  have:=qbp s 0 0 W hs (by decide) (by decide) (hT.kept h);rwa [qhO hs]at this
 have A1:Hid (∀W,Kept w W→Calls prog 55 #[.agg #[.bool s.left.neg,.string s.left.n,.int .i64 s.left.e,.bool s.low.neg,.string s.low.n,.int .i64 s.low.e,.int .i64 s.e],.int .i64 2,.int .i64 0] W fun en w'=>en=.returned (qaF (qaG (qbi s) (s.low,0)))∧Kept W w'):=fun W h=>by
  have:=qbp s 2 0 W hs (by decide) (by decide) (hT.kept h);rwa [qn9 hs]at this
 have A2:Hid (∀W,Kept w W→Calls prog 55 #[.agg #[.bool s.left.neg,.string s.left.n,.int .i64 s.left.e,.bool s.low.neg,.string s.low.n,.int .i64 s.low.e,.int .i64 s.e],.int .i64 0,.int .i64 2] W fun en w'=>en=.returned (qaF (qaG (s.left,0) (qbs s)))∧Kept W w'):=fun W h=>by
  have:=qbp s 0 2 W hs (by decide) (by decide) (hT.kept h);rwa [qpA hs]at this
 have A3:Hid (∀W,Kept w W→Calls prog 55 #[.agg #[.bool s.left.neg,.string s.left.n,.int .i64 s.left.e,.bool s.low.neg,.string s.low.n,.int .i64 s.low.e,.int .i64 s.e],.int .i64 2,.int .i64 2] W fun en w'=>en=.returned (qaF (qaG (qbi s) (qbs s)))∧Kept W w'):=fun W h=>by
  have:=qbp s 2 2 W hs (by decide) (by decide) (hT.kept h);rwa [qp3 hs]at this
 rw[qbE hx rfl]at A1;rw[qbE rfl hy]at A2;rw[qbE hx hy]at A3;generalize(qbi s).1=X at *;generalize(qbs s).1=Y at *;obtain⟨x0,x1,x2⟩:=X;obtain⟨y0,y1,y2⟩:=Y;obtain⟨⟨a0,a1,a2⟩,⟨a3,a4,a5⟩,a6⟩:=s;simp only at RT A0 A1 A2 A3⊢;clear hs hs1 hs2 hs3 hs4 hT hx hy;go_enter func22,ntmps22
 go_upto_region 1 with fail
 obtain⟨b,w1,hw,hb,B0,B1,K1,HB⟩:=qa6 w (LC3 a0 a1 a2 a3 a4 a5 a6) 26 ZL1 64;rw[←hw,←hb];clear hw hb;obtain⟨c0,c1,c2,c3,c4,c5,c6⟩:=B0.out.c7;go_upto_region 4 with (go_at_call 54;(with_reducible refine(RT.out _).mono ?_);rintro e w3 ⟨rfl,hk3⟩)
 clear c0 c1 c2 c3 c4 c5 c6 RT;have K4:=qh (Kept.new hk3 (.cells ZL1.toArray 64));have L4:=qh (Bx.new w3 ZL1 64 w3.heap.size rfl);obtain⟨g,hg⟩: ∃g,g=w3.heap.size:=⟨_,rfl⟩
 rw[←hg]at L4⊢;have HG:=qh (show w1.heap.size≤g by have:=hk3.size;omega);clear hg hk3;generalize(w3.alloc (.cells ZL1.toArray 64))=w4 at *;go_wp2_with fail
 go_loopg [5,6,7,12] 4 (fun gh v5 v6 v7 v12 wr=> ∃i:Nat,i+gh=4∧v12=.int .i64 i∧Kept w1 wr∧((i=0∧Bx wr g ZL1)∨(i=1∧Bx wr g (LC4 a0 a1 a2 a3 a4 a5 false ⟨#[]⟩ 0 false ⟨#[]⟩ 0 false ⟨#[]⟩ 0 false ⟨#[]⟩ 0 false ⟨#[]⟩ 0 false ⟨#[]⟩ 0))∨(i=2∧Bx wr g (LC4 a0 a1 a2 a3 a4 a5 x0 x1 x2 a3 a4 a5 false ⟨#[]⟩ 0 false ⟨#[]⟩ 0 false ⟨#[]⟩ 0 false ⟨#[]⟩ 0))∨(i=3∧Bx wr g (LC4 a0 a1 a2 a3 a4 a5 x0 x1 x2 a3 a4 a5 a0 a1 a2 y0 y1 y2 false ⟨#[]⟩ 0 false ⟨#[]⟩ 0))∨(i=4∧Bx wr g (LC4 a0 a1 a2 a3 a4 a5 x0 x1 x2 a3 a4 a5 a0 a1 a2 y0 y1 y2 x0 x1 x2 y0 y1 y2))))
 case atStart=>exact⟨0,by omega,rfl,K4.out,.inl ⟨rfl,L4.out⟩⟩
 case round=>
  obtain⟨i,hig,rfl,hk,hb⟩:=hrel;have HK:=qh hk;have hgw:g<wr.heap.size:=by rcases hb with ⟨-,hb⟩|⟨-,hb⟩|⟨-,hb⟩|⟨-,hb⟩|⟨-,hb⟩<;>exact hb.lt
  clear hk;rcases hb with ⟨rfl,hb⟩|⟨rfl,hb⟩|⟨rfl,hb⟩|⟨rfl,hb⟩|⟨rfl,hb⟩
  ·obtain rfl:gk=4:=by omega
   have BL:=qh hb;clear hb;obtain⟨c0,c1,c2,c3,c4,c5,c6⟩:=(B0.out.kept HK.out).c7;go_wp2_with (go_at_call 55;(with_reducible refine(A0.out _ (K1.out.trans' HK.out)).mono ?_);rintro e w5 ⟨rfl,hk5⟩;have B5:=qh (BL.out.kept hk5);have d0:=B5.out.c 0 rfl;have d1:=B5.out.c 1 rfl;have d2:=B5.out.c 2 rfl;have d3:=B5.out.c 3 rfl;have d4:=B5.out.c 4 rfl;have d5:=B5.out.c 5 rfl;have f0:=B5.out.f 0;have f1:=B5.out.f 1;have f2:=B5.out.f 2;have f3:=B5.out.f 3;have f4:=B5.out.f 4;have f5:=B5.out.f 5;have g5:=B5.out.lt;have K5:=qh (HK.out.trans' hk5);clear hk5 c0 c1 c2 c3 c4 c5 c6)
   go_roundg 3
   case measure=>omega
   case rel=>
    refine⟨1,by omega,by go_num,?_,?_⟩
    ·exact(Kept.new (Kept.set (Kept.set (Kept.set (Kept.set (Kept.set (Kept.set K5.out HG.out 0 _) HG.out 1 _) HG.out 2 _) HG.out 3 _) HG.out 4 _) HG.out 5 _) _)
    ·refine(.inr (.inl ⟨rfl,?_⟩))
     exact(Bx.kept (Bx.set (Bx.set (Bx.set (Bx.set (Bx.set (Bx.set B5.out 0 _ (by simp)) 1 _ (by simp)) 2 _ (by simp)) 3 _ (by simp)) 4 _ (by simp)) 5 _ (by simp)) (Kept.new (Below.refl _ _) _))
  ·obtain rfl:gk=3:=by omega
   have BL:=qh hb;clear hb;obtain⟨c0,c1,c2,c3,c4,c5,c6⟩:=(B0.out.kept HK.out).c7;go_wp2_with (go_at_call 55;(with_reducible refine(A1.out _ (K1.out.trans' HK.out)).mono ?_);rintro e w5 ⟨rfl,hk5⟩;have B5:=qh (BL.out.kept hk5);have d6:=B5.out.c 6 rfl;have d7:=B5.out.c 7 rfl;have d8:=B5.out.c 8 rfl;have d9:=B5.out.c 9 rfl;have d10:=B5.out.c 10 rfl;have d11:=B5.out.c 11 rfl;have f6:=B5.out.f 6;have f7:=B5.out.f 7;have f8:=B5.out.f 8;have f9:=B5.out.f 9;have f10:=B5.out.f 10;have f11:=B5.out.f 11;have g5:=B5.out.lt;have K5:=qh (HK.out.trans' hk5);clear hk5 c0 c1 c2 c3 c4 c5 c6)
   go_roundg 2
   case measure=>omega
   case rel=>
    refine⟨2,by omega,by go_num,?_,?_⟩
    ·exact(Kept.new (Kept.set (Kept.set (Kept.set (Kept.set (Kept.set (Kept.set K5.out HG.out 6 _) HG.out 7 _) HG.out 8 _) HG.out 9 _) HG.out 10 _) HG.out 11 _) _)
    ·refine(.inr (.inr (.inl ⟨rfl,?_⟩)))
     exact(Bx.kept (Bx.set (Bx.set (Bx.set (Bx.set (Bx.set (Bx.set B5.out 6 _ (by simp)) 7 _ (by simp)) 8 _ (by simp)) 9 _ (by simp)) 10 _ (by simp)) 11 _ (by simp)) (Kept.new (Below.refl _ _) _))
  ·obtain rfl:gk=2:=by omega
   have BL:=qh hb;clear hb;obtain⟨c0,c1,c2,c3,c4,c5,c6⟩:=(B0.out.kept HK.out).c7;go_wp2_with (go_at_call 55;(with_reducible refine(A2.out _ (K1.out.trans' HK.out)).mono ?_);rintro e w5 ⟨rfl,hk5⟩;have B5:=qh (BL.out.kept hk5);have d12:=B5.out.c 12 rfl;have d13:=B5.out.c 13 rfl;have d14:=B5.out.c 14 rfl;have d15:=B5.out.c 15 rfl;have d16:=B5.out.c 16 rfl;have d17:=B5.out.c 17 rfl;have f12:=B5.out.f 12;have f13:=B5.out.f 13;have f14:=B5.out.f 14;have f15:=B5.out.f 15;have f16:=B5.out.f 16;have f17:=B5.out.f 17;have g5:=B5.out.lt;have K5:=qh (HK.out.trans' hk5);clear hk5 c0 c1 c2 c3 c4 c5 c6)
   go_roundg 1
   case measure=>omega
   case rel=>
    refine⟨3,by omega,by go_num,?_,?_⟩
    ·exact(Kept.new (Kept.set (Kept.set (Kept.set (Kept.set (Kept.set (Kept.set K5.out HG.out 12 _) HG.out 13 _) HG.out 14 _) HG.out 15 _) HG.out 16 _) HG.out 17 _) _)
    ·refine(.inr (.inr (.inr (.inl ⟨rfl,?_⟩))))
     exact(Bx.kept (Bx.set (Bx.set (Bx.set (Bx.set (Bx.set (Bx.set B5.out 12 _ (by simp)) 13 _ (by simp)) 14 _ (by simp)) 15 _ (by simp)) 16 _ (by simp)) 17 _ (by simp)) (Kept.new (Below.refl _ _) _))
  ·obtain rfl:gk=1:=by omega
   have BL:=qh hb;clear hb;obtain⟨c0,c1,c2,c3,c4,c5,c6⟩:=(B0.out.kept HK.out).c7;go_wp2_with (go_at_call 55;(with_reducible refine(A3.out _ (K1.out.trans' HK.out)).mono ?_);rintro e w5 ⟨rfl,hk5⟩;have B5:=qh (BL.out.kept hk5);have d18:=B5.out.c 18 rfl;have d19:=B5.out.c 19 rfl;have d20:=B5.out.c 20 rfl;have d21:=B5.out.c 21 rfl;have d22:=B5.out.c 22 rfl;have d23:=B5.out.c 23 rfl;have f18:=B5.out.f 18;have f19:=B5.out.f 19;have f20:=B5.out.f 20;have f21:=B5.out.f 21;have f22:=B5.out.f 22;have f23:=B5.out.f 23;have g5:=B5.out.lt;have K5:=qh (HK.out.trans' hk5);clear hk5 c0 c1 c2 c3 c4 c5 c6)
   go_roundg 0
   case measure=>omega
   case rel=>
    refine⟨4,by omega,by go_num,?_,?_⟩
    ·exact(Kept.new (Kept.set (Kept.set (Kept.set (Kept.set (Kept.set (Kept.set K5.out HG.out 18 _) HG.out 19 _) HG.out 20 _) HG.out 21 _) HG.out 22 _) HG.out 23 _) _)
    ·refine(.inr (.inr (.inr (.inr (⟨rfl,?_⟩)))))
     exact(Bx.kept (Bx.set (Bx.set (Bx.set (Bx.set (Bx.set (Bx.set B5.out 18 _ (by simp)) 19 _ (by simp)) 20 _ (by simp)) 21 _ (by simp)) 22 _ (by simp)) 23 _ (by simp)) (Kept.new (Below.refl _ _) _))
  ·obtain rfl:gk=0:=by omega
   have BL:=qh hb;clear hb;go_upto_region 12 with fail
   refine wp_region_list (wpList_plain rfl fun K hK=>qag (b:=g) (n:=24) _ rfl rfl BL.out rfl underlying64 rfl (by kernel_rfl) (hK _ _ ?_));clear hK K;refine wpList_plain rfl fun K hK=>qaa (b:=b+1) (n:=24) _ _ rfl rfl rfl (B1.out.kept HK.out) rfl rfl (by kernel_rfl) rfl (hK _ _ ?_);clear hK K;have B9:=qh ((B1.out.kept HK.out).row (LC4 a0 a1 a2 a3 a4 a5 x0 x1 x2 a3 a4 a5 a0 a1 a2 y0 y1 y2 x0 x1 x2 y0 y1 y2));have K9:=qh (Kept.row (K1.out.trans' HK.out) (show w.heap.size≤b+1 by have:=HB.out;omega) (LC4 a0 a1 a2 a3 a4 a5 x0 x1 x2 a3 a4 a5 a0 a1 a2 y0 y1 y2 x0 x1 x2 y0 y1 y2));generalize World.setRow _ _ _=w9 at *;go_wp2_with fail
   refine qbT results22 underlying64 rfl (by kernel_rfl) rfl rfl B9.out rfl ⟨rfl,K9.out⟩
def qpQ (g:GsD):List Value:=(LC1 g.re.neg g.re.n g.re.e g.im.neg g.im.n g.im.e)
def qnE :Option (List GsD)→Value
 |none=>.tuple #[.agg ZL1.toArray,.int .i64 4]
 |some l=>.tuple #[.agg (l.flatMap qpQ).toArray,.int .i64 0]
theorem qgm (s:SqD) (w:World) (hs:sqB s=true) (hT:T32 w):
  Calls prog 22 #[.agg #[.bool s.left.neg,.string s.left.n,.int .i64 s.left.e,.bool s.low.neg,.string s.low.n,.int .i64 s.low.e,.int .i64 s.e]] w fun en w'=>en=.returned (qnE (qaY s))∧Kept w w':=by
 by_cases hx:(qbi s).2=0
 ·by_cases hy:(qbs s).2=0
  ·have h:qaY s=some [⟨s.left,s.low⟩,⟨(qbi s).1,s.low⟩,⟨s.left,(qbs s).1⟩,⟨(qbi s).1,(qbs s).1⟩]:=by unfold qaY;rw[if_pos ⟨hx,hy⟩]
   rw[h];exact qkk s w hs hT hx hy
  ·have h:qaY s=none:=by unfold qaY;rw[if_neg (fun h=>hy h.2)]
   rw[h];exact qlY s w hs hT hx hy
 ·have h:qaY s=none:=by unfold qaY;rw[if_neg (fun h=>hx h.1)]
  rw[h];exact qni s w hs hT hx
end
section
set_option maxHeartbeats 3200000
set_option maxRecDepth 100000
attribute [local go_sem] run_float_arith qaM qaN qaw qaf qad
theorem qmG (n:Int) (w:World):Calls prog 74 #[.int .i64 n] w fun e w'=>e=.returned (.bool (decide (-4096≤n)&&decide (n≤4096)))∧w'=w:=by
 obtain⟨R,hR⟩: ∃R,R=(decide (-4096≤n)&&decide (n≤4096)):=⟨_,rfl⟩
 rw[←hR];have HR:=qh hR;clear hR;by_cases h1: -4096≤n
 ·by_cases h2:n≤4096
  ·have H:=qh (And.intro h1 h2)
   go_enter func74,ntmps74
   go_wp2_with fail
   go_ret
   exact⟨qbA (by rw[HR.out,decide_eq_true H.out.1,decide_eq_true H.out.2];rfl),rfl⟩
  ·have H:=qh (And.intro h1 h2)
   go_enter func74,ntmps74
   go_wp2_with fail
   go_ret
   exact⟨qbA (by rw[HR.out,decide_eq_true H.out.1,decide_eq_false (show¬n≤4096 by have:=H.out.2;omega)];rfl),rfl⟩
 ·have H:=qh h1
  go_enter func74,ntmps74
  go_wp2_with fail
  go_ret
  exact⟨qbA (by rw[HR.out,decide_eq_false (show¬ -4096≤n by have:=H.out;omega)];rfl),rfl⟩
theorem qkS (s:SqD) (w:World) (hs:s.left.ok∧s.low.ok):
  Calls prog 40 #[.agg #[.bool s.left.neg,.string s.left.n,.int .i64 s.left.e,.bool s.low.neg,.string s.low.n,.int .i64 s.low.e,.int .i64 s.e]] w fun e w'=>e=.returned (.bool (sqB s))∧Kept w w':=by
 have CP:=qh (fun(W:World)=>qeb s.left W hs.1);have CQ:=qh (fun(W:World)=>qeb s.low W hs.2);have CS:=qh (fun(W:World)=>qmG s.e W);unfold sqB;generalize qae s.left=bp at *;generalize qae s.low=bq at *;generalize(decide (-4096≤s.e)&&decide (s.e≤4096))=br at *;obtain⟨⟨a0,a1,a2⟩,⟨a3,a4,a5⟩,a6⟩:=s;simp only at CP CQ CS⊢;clear hs;cases bp with
 |false=>
  go_enter func40,ntmps40
  go_upto_region 1 with fail
  obtain⟨b,w1,hw,hb,B0,K1,HB⟩:=qa4 w (LC3 a0 a1 a2 a3 a4 a5 a6) 26;rw[←hw,←hb];clear hw hb;obtain⟨c0,c1,c2,c3,c4,c5,c6⟩:=B0.out.c7;go_wp2_with (go_at_call 73;(with_reducible refine(CP.out _).mono ?_);rintro e w2 ⟨rfl,hk2⟩)
  go_ret
  exact⟨rfl,K1.out.trans' hk2⟩
 |true=>
  cases bq with
  |false=>
   go_enter func40,ntmps40
   go_upto_region 1 with fail
   obtain⟨b,w1,hw,hb,B0,K1,HB⟩:=qa4 w (LC3 a0 a1 a2 a3 a4 a5 a6) 26;rw[←hw,←hb];clear hw hb;obtain⟨c0,c1,c2,c3,c4,c5,c6⟩:=B0.out.c7;go_wp2_with fail
   (with_reducible refine(CP.out _).mono ?_)
   rintro e w2 ⟨rfl,hk2⟩;obtain⟨c0,c1,c2,c3,c4,c5,c6⟩:=(B0.out.kept hk2).c7;have K2:=qh hk2;clear hk2 CP;go_wp2_with fail
   (with_reducible refine(CQ.out _).mono ?_)
   rintro e w3 ⟨rfl,hk3⟩;go_wp2_with fail
   go_ret
   exact⟨rfl,(K1.out.trans' K2.out).trans' hk3⟩
  |true=>
   go_enter func40,ntmps40
   go_upto_region 1 with fail
   obtain⟨b,w1,hw,hb,B0,K1,HB⟩:=qa4 w (LC3 a0 a1 a2 a3 a4 a5 a6) 26;rw[←hw,←hb];clear hw hb;obtain⟨c0,c1,c2,c3,c4,c5,c6⟩:=B0.out.c7;go_wp2_with fail
   (with_reducible refine(CP.out _).mono ?_)
   rintro e w2 ⟨rfl,hk2⟩;obtain⟨c0,c1,c2,c3,c4,c5,c6⟩:=(B0.out.kept hk2).c7;have K2:=qh hk2;clear hk2 CP;go_wp2_with fail
   (with_reducible refine(CQ.out _).mono ?_)
   rintro e w3 ⟨rfl,hk3⟩;obtain⟨c0,c1,c2,c3,c4,c5,c6⟩:=((B0.out.kept K2.out).kept hk3).c7;have K3:=qh hk3;clear hk3 CQ;go_wp2_with fail
   (with_reducible refine(CS.out _).mono ?_)
   rintro e w4 ⟨rfl,hw⟩;replace hw:=hw.symm;subst hw;go_wp2_with fail
   go_ret
   exact⟨rfl,(K1.out.trans' K2.out).trans' K3.out⟩
theorem qgJ (d:DyD) (n e:Int) (w:World) (hd:qae d=true) (hn:n.natAbs<1000000) (he:e.natAbs≤1000000):
  Calls prog 117 #[.agg #[.bool d.neg,.string d.n,.int .i64 d.e],.int .i64 n,.int .i64 e] w fun en w'=>en=.returned (qai (qaP d n e))∧Kept w w':=by
 have OF:=qh (fun W=>qi8 n e W (by omega) (by omega) (by omega));have ho:qae (qbb n e).1=true:=qet _ _;unfold qaP ofS;generalize qbb n e=F at *;have ADD:=qh (fun W=>qdx d F.1 W hd ho);generalize qaE d F.1=R at *;obtain⟨⟨f0,f1,f2⟩,f3⟩:=F;obtain⟨d0,d1,d2⟩:=d;simp only at OF ADD⊢;have hcv:IntKind.i64.wrap n=n:=IntWalk.i64_in _ (by omega);clear hd ho he;go_enter func117,ntmps117
 go_upto_region 1 with fail
 obtain⟨b,w1,hw,hb,B0,B1,K1,HB⟩:=qa6 w (LC0 d0 d1 d2) 24 (LC0 false ⟨#[]⟩ 0) 24;rw[←hw,←hb];clear hw hb;go_upto_region 2 with (go_at_call 138;(with_reducible refine(OF.out _).mono ?_);rintro e w3 ⟨rfl,hk3⟩)
 have K4:=qh (Kept.new hk3 (.cells (LC0 f0 f1 f2).toArray 24));have B3:=qh (Bx.new w3 (LC0 f0 f1 f2) 24 w3.heap.size rfl);obtain⟨g,hg⟩: ∃g,g=w3.heap.size:=⟨_,rfl⟩
 rw[←hg]at B3⊢;clear hg hk3;generalize(w3.alloc (.cells (LC0 f0 f1 f2).toArray 24))=w4 at *;obtain⟨c0,c1,c2⟩:=(B0.out.kept K4.out).c3;obtain⟨e0,e1,e2⟩:=B3.out.c3;go_wp2_with (go_at_call 91;(with_reducible refine(ADD.out _).mono ?_);rintro e w5 ⟨rfl,hk5⟩;have K5:=qh (K4.out.trans' hk5);obtain⟨r0,r1,r2⟩:=(B1.out.kept K5.out).c3;obtain⟨t0,t1,t2⟩:=(B1.out.kept K5.out).f3)
 exact bodyPost_ret (v:=qai R) (by simp[results,results117,go_sem,r0,r1,r2,qai]) rfl ⟨rfl,(K1.out.trans' K5.out).qaO (by have:=HB.out;omega) _ _ _⟩
theorem qeJ (s:SqD) (w:World) (hs:sqB s=true):
  Calls prog 76 #[.agg #[.bool s.left.neg,.string s.left.n,.int .i64 s.left.e,.bool s.low.neg,.string s.low.n,.int .i64 s.low.e,.int .i64 s.e]] w fun en w'=>en=.returned (qaF (qbB s))∧Kept w w':=by
 obtain⟨h1,h2,h3,h4⟩:=qax.1 hs;have M1:=qh (fun W=>qgJ s.left 1 (s.e-1) W h1 (by omega) (by omega));have M2:=qh (fun W=>qgJ s.low 1 (s.e-1) W h2 (by omega) (by omega));unfold qbB;generalize qaP s.left 1 (s.e-1)=R at *;generalize qaP s.low 1 (s.e-1)=Q at *;obtain⟨v,hv⟩: ∃v:GsD×Int,v=qaG R Q:=⟨_,rfl⟩
 rw[←hv];have HV:=qh hv;clear hv;obtain⟨⟨a0,a1,a2⟩,⟨a3,a4,a5⟩,a6⟩:=s;obtain⟨⟨r0,r1,r2⟩,r3⟩:=R;obtain⟨⟨q0,q1,q2⟩,q3⟩:=Q;simp only at M1 M2 h3 h4⊢;clear hs h1 h2;go_enter func76,ntmps76
 go_upto_region 1 with fail
 obtain⟨b,w1,hw,hb,B0,B1,K1,HB⟩:=qa6 w (LC3 a0 a1 a2 a3 a4 a5 a6) 26 ZL0 28;rw[←hw,←hb];clear hw hb;obtain⟨c0,c1,c2,c3,c4,c5,c6⟩:=B0.out.c7;go_upto_region 2 with (go_at_call 117;(with_reducible refine(M1.out _).mono ?_);rintro e w3 ⟨rfl,hk3⟩)
 have K4:=qh (Kept.new hk3 (.cells (LC0 r0 r1 r2).toArray 24));have B2:=qh (Bx.new w3 (LC0 r0 r1 r2) 24 w3.heap.size rfl);obtain⟨g,hg⟩: ∃g,g=w3.heap.size:=⟨_,rfl⟩
 rw[←hg]at B2⊢;clear hg hk3;generalize(w3.alloc (.cells (LC0 r0 r1 r2).toArray 24))=w4 at *;clear c0 c1 c2 c3 c4 c5 c6;obtain⟨c0,c1,c2,c3,c4,c5,c6⟩:=(B0.out.kept K4.out).c7;go_upto_region 3 with (go_at_call 117;(with_reducible refine(M2.out _).mono ?_);rintro e w5 ⟨rfl,hk5⟩)
 have K6:=qh (Kept.new (K4.out.trans' hk5) (.cells (LC0 q0 q1 q2).toArray 24));have B3:=qh (Bx.new w5 (LC0 q0 q1 q2) 24 w5.heap.size rfl);replace B2:=qh ((B2.out.kept hk5).kept (Kept.new (Below.refl _ _) (.cells (LC0 q0 q1 q2).toArray 24)));obtain⟨g2,hg⟩: ∃g,g=w5.heap.size:=⟨_,rfl⟩
 rw[←hg]at B3⊢;clear hg hk5;generalize(w5.alloc (.cells (LC0 q0 q1 q2).toArray 24))=w6 at *;clear c0 c1 c2 c3 c4 c5 c6 M1 M2;obtain⟨c0,c1,c2⟩:=B2.out.c3;obtain⟨d0,d1,d2⟩:=B3.out.c3;obtain⟨e0,e1,e2,e3,e4,e5⟩:=(B1.out.kept K6.out).c6;obtain⟨f0,f1,f2,f3,f4,f5⟩:=(B1.out.kept K6.out).f6;by_cases h1:r3=0
 ·by_cases h2:q3=0
  ·subst h1 h2
   go_wp2_with fail
   exact bodyPost_ret (v:=qaF (⟨⟨r0,r1,r2⟩,⟨q0,q1,q2⟩⟩,0)) (by simp[results,results76,go_sem,e0,e1,e2,e3,e4,e5,qaF]) rfl ⟨by rw[HV.out];rfl,(K1.out.trans' K6.out).qde (by have:=HB.out;omega) _ _ _ _ _ _⟩
  ·subst h1
   have HQ:=qh h2;go_wp2_with fail
   exact bodyPost_ret (v:=qaF (zG,4)) (by simp[results,results76,go_sem,e0,e1,e2,e3,e4,e5,qaF,zG,zD]) rfl ⟨by rw[HV.out];unfold qaG;rw[if_neg (fun h=>HQ.out h.2)],(K1.out.trans' K6.out).qde (by have:=HB.out;omega) _ _ _ _ _ _⟩
 ·have HR:=qh h1
  go_wp2_with fail
  exact bodyPost_ret (v:=qaF (zG,4)) (by simp[results,results76,go_sem,e0,e1,e2,e3,e4,e5,qaF,zG,zD]) rfl ⟨by rw[HV.out];unfold qaG;rw[if_neg (fun h=>HR.out h.1)],(K1.out.trans' K6.out).qde (by have:=HB.out;omega) _ _ _ _ _ _⟩
theorem qmU (s:SqD) (w:World) (hs:sqB s=true):
  Calls prog 92 #[.agg #[.bool s.left.neg,.string s.left.n,.int .i64 s.left.e,.bool s.low.neg,.string s.low.n,.int .i64 s.low.e,.int .i64 s.e]] w fun en w'=>en=.returned (dyV (qbW s))∧Kept w w':=by
 obtain⟨h1,h2,h3,h4⟩:=qax.1 hs;have OF:=qh (fun W=>qi8 1 (2*s.e) W (by omega) (by omega) (by omega));unfold qbW ofS;generalize qbb 1 (2*s.e)=F at *;obtain⟨⟨a0,a1,a2⟩,⟨a3,a4,a5⟩,a6⟩:=s;obtain⟨⟨f0,f1,f2⟩,f3⟩:=F;simp only at OF h3 h4⊢;clear hs h1 h2;go_enter func92,ntmps92
 go_upto_region 1 with fail
 obtain⟨b,w1,hw,hb,B0,B1,K1,HB⟩:=qa6 w (LC3 a0 a1 a2 a3 a4 a5 a6) 26 (LC0 false ⟨#[]⟩ 0) 24;rw[←hw,←hb];clear hw hb;obtain⟨c0,c1,c2,c3,c4,c5,c6⟩:=B0.out.c7;go_upto_region 2 with (go_at_call 138;(with_reducible refine(OF.out _).mono ?_);rintro e w3 ⟨rfl,hk3⟩)
 have K4:=qh (Kept.new hk3 (.cells (LC0 f0 f1 f2).toArray 24));have B3:=qh (Bx.new w3 (LC0 f0 f1 f2) 24 w3.heap.size rfl);obtain⟨g,hg⟩: ∃g,g=w3.heap.size:=⟨_,rfl⟩
 rw[←hg]at B3⊢;clear hg hk3;generalize(w3.alloc (.cells (LC0 f0 f1 f2).toArray 24))=w4 at *;obtain⟨e0,e1,e2⟩:=B3.out.c3;obtain⟨r0,r1,r2⟩:=(B1.out.kept K4.out).c3;obtain⟨t0,t1,t2⟩:=(B1.out.kept K4.out).f3;clear c0 c1 c2 c3 c4 c5 c6;go_wp2_with fail
 exact bodyPost_ret (v:=dyV ⟨f0,f1,f2⟩) (by simp[results,results92,go_sem,r0,r1,r2,dyV]) rfl ⟨rfl,(K1.out.trans' K4.out).qaO (by have:=HB.out;omega) _ _ _⟩
theorem qjj (n:DyD) (x:Nat) (w:World) (hn:qae n=true) (hx:x<18446744073709551616):
  Calls prog 83 #[.agg #[.bool n.neg,.string n.n,.int .i64 n.e],.int .u64 (x:Int)] w fun en w'=>en=.returned (.bool (qa7 n x))∧Kept w w':=by
 have FL:=qh (fun W=>qep x W hx);have h1:qae (qa3 x).1=true:=qfP x;unfold qa7;generalize qa3 x=F at *;have MUL:=qh (fun W=>qfV F.1 F.1 W h1 h1);have h2:=qdf F.1 F.1;generalize mulS F.1 F.1=M at *;have CMP:=qh (fun W=>qfJ n M.1 W hn h2);rw[qim n M.1];generalize qdk n M.1=k at *;obtain⟨⟨f0,f1,f2⟩,f3⟩:=F;obtain⟨⟨m0,m1,m2⟩,m3⟩:=M;obtain⟨n0,n1,n2⟩:=n;simp only at FL MUL CMP⊢;have HK:=qh (show decide (0≤ -k)=decide (k≤0) by rw[Bool.eq_iff_iff,decide_eq_true_eq,decide_eq_true_eq];omega);clear h1 h2 hn hx;go_enter func83,ntmps83
 go_upto_region 1 with fail
 obtain⟨b,w1,hw,hb,B0,K1,HB⟩:=qa4 w (LC0 n0 n1 n2) 24;rw[←hw,←hb];clear hw hb;go_upto_region 2 with (go_at_call 118;(with_reducible refine(FL.out _).mono ?_);rintro e w3 ⟨rfl,hk3⟩)
 have K4:=qh (Kept.new hk3 (.cells (LC0 f0 f1 f2).toArray 24));have B1:=qh (Bx.new w3 (LC0 f0 f1 f2) 24 w3.heap.size rfl);obtain⟨g,hg⟩: ∃g,g=w3.heap.size:=⟨_,rfl⟩
 rw[←hg]at B1⊢;clear hg hk3;generalize(w3.alloc (.cells (LC0 f0 f1 f2).toArray 24))=w4 at *;obtain⟨c0,c1,c2⟩:=B1.out.c3;go_upto_region 3 with (go_at_call 127;(with_reducible refine(MUL.out _).mono ?_);rintro e w5 ⟨rfl,hk5⟩)
 have K6:=qh (Kept.new (K4.out.trans' hk5) (.cells (LC0 m0 m1 m2).toArray 24));have B2:=qh (Bx.new w5 (LC0 m0 m1 m2) 24 w5.heap.size rfl);obtain⟨g2,hg⟩: ∃g,g=w5.heap.size:=⟨_,rfl⟩
 rw[←hg]at B2⊢;clear hg hk5;generalize(w5.alloc (.cells (LC0 m0 m1 m2).toArray 24))=w6 at *;clear c0 c1 c2;obtain⟨c0,c1,c2⟩:=(B0.out.kept K6.out).c3;obtain⟨d0,d1,d2⟩:=B2.out.c3;go_wp2_with (go_at_call 81;(with_reducible refine(CMP.out _).mono ?_);rintro e w7 ⟨rfl,hk7⟩)
 go_ret
 exact⟨qbA (by rw[HK.out]),(K1.out.trans' K6.out).trans' hk7⟩
end
section
set_option maxHeartbeats 3200000
set_option maxRecDepth 100000
attribute [local go_sem] run_float_arith qaM qaN qaw qaf qad
theorem qkp (s:SqD) (w:World) (hs:sqB s=true):
  Calls prog 116 #[.agg #[.bool s.left.neg,.string s.left.n,.int .i64 s.left.e,.bool s.low.neg,.string s.low.n,.int .i64 s.low.e,.int .i64 s.e]] w fun en w'=>en=.returned (.tuple #[.agg #[.bool (qbi s).1.neg,.string (qbi s).1.n,.int .i64 (qbi s).1.e],.agg #[.bool (qbs s).1.neg,.string (qbs s).1.n,.int .i64 (qbs s).1.e],.int .i64 (if (qbi s).2=0∧(qbs s).2=0 then 0 else 4)])∧Kept w w':=by
 obtain⟨h1,h2,h3,h4⟩:=qax.1 hs;have M1:=qh (fun W=>qgJ s.left 1 s.e W h1 (by omega) (by omega));have M2:=qh (fun W=>qgJ s.low 1 s.e W h2 (by omega) (by omega));unfold qbi qbs;generalize qaP s.left 1 s.e=R at *;generalize qaP s.low 1 s.e=Q at *;obtain⟨⟨a0,a1,a2⟩,⟨a3,a4,a5⟩,a6⟩:=s;obtain⟨⟨r0,r1,r2⟩,r3⟩:=R;obtain⟨⟨q0,q1,q2⟩,q3⟩:=Q;simp only at M1 M2 h3 h4⊢;obtain⟨E,hE⟩: ∃E:Int,E=if r3=0∧q3=0 then 0 else 4:=⟨_,rfl⟩
 rw[←hE];have HE:=qh hE;clear hs h1 h2 hE;go_enter func116,ntmps116
 go_upto_region 1 with fail
 obtain⟨b,w1,hw,hb,B0,B1,B2,K1,HB⟩:=qcj w (LC3 a0 a1 a2 a3 a4 a5 a6) 26 (LC0 false ⟨#[]⟩ 0) 24 (LC0 false ⟨#[]⟩ 0) 24;rw[←hw,←hb];clear hw hb;obtain⟨c0,c1,c2,c3,c4,c5,c6⟩:=B0.out.c7;go_upto_region 2 with (go_at_call 117;(with_reducible refine(M1.out _).mono ?_);rintro e w3 ⟨rfl,hk3⟩)
 have HG0:=qh (show w3.heap.size≠b+1 by have:=B1.out.lt;have:=hk3.size;omega);have K4:=qh (Kept.new hk3 (.cells (LC0 r0 r1 r2).toArray 24));have B3:=qh (Bx.new w3 (LC0 r0 r1 r2) 24 w3.heap.size rfl);obtain⟨g,hg⟩: ∃g,g=w3.heap.size:=⟨_,rfl⟩
 rw[←hg]at B3 HG0⊢;clear hg hk3;generalize(w3.alloc (.cells (LC0 r0 r1 r2).toArray 24))=w4 at *;clear c0 c1 c2 c3 c4 c5 c6;obtain⟨c0,c1,c2,c3,c4,c5,c6⟩:=(B0.out.kept K4.out).c7;go_upto_region 3 with (go_at_call 117;(with_reducible refine(M2.out _).mono ?_);rintro e w5 ⟨rfl,hk5⟩)
 have HG2:=qh (show w5.heap.size≠b+1 by have:=B1.out.lt;have:=K4.out.size;have:=hk5.size;omega);have K6:=qh (Kept.new (K4.out.trans' hk5) (.cells (LC0 q0 q1 q2).toArray 24));have B4:=qh (Bx.new w5 (LC0 q0 q1 q2) 24 w5.heap.size rfl);replace B3:=qh ((B3.out.kept hk5).kept (Kept.new (Below.refl _ _) (.cells (LC0 q0 q1 q2).toArray 24)));obtain⟨g2,hg⟩: ∃g,g=w5.heap.size:=⟨_,rfl⟩
 rw[←hg]at B4 HG2⊢;clear hg hk5;generalize(w5.alloc (.cells (LC0 q0 q1 q2).toArray 24))=w6 at *;clear c0 c1 c2 c3 c4 c5 c6 M1 M2;obtain⟨c0,c1,c2⟩:=B3.out.c3;obtain⟨d0,d1,d2⟩:=B4.out.c3;obtain⟨e0,e1,e2⟩:=(B1.out.kept K6.out).c3;obtain⟨e3,e4,e5⟩:=(B2.out.kept K6.out).c3;obtain⟨f0,f1,f2⟩:=(B1.out.kept K6.out).f3;obtain⟨f3,f4,f5⟩:=(B2.out.kept K6.out).f3;have KS:Hid (∀v0 v1 v2:Value,((((w6.setCell ⟨b+1,0,none⟩ v0).setCell ⟨b+1,1,none⟩ v1).setCell ⟨b+1,2,none⟩ v2).drew.cell? ⟨g,0,none⟩=some (.bool r0)∧(((w6.setCell ⟨b+1,0,none⟩ v0).setCell ⟨b+1,1,none⟩ v1).setCell ⟨b+1,2,none⟩ v2).drew.cell? ⟨g,1,none⟩=some (.string r1)∧(((w6.setCell ⟨b+1,0,none⟩ v0).setCell ⟨b+1,1,none⟩ v1).setCell ⟨b+1,2,none⟩ v2).drew.cell? ⟨g,2,none⟩=some (.int .i64 r2))∧(((w6.setCell ⟨b+1,0,none⟩ v0).setCell ⟨b+1,1,none⟩ v1).setCell ⟨b+1,2,none⟩ v2).drew.cell? ⟨g2,0,none⟩=some (.bool q0)∧(((w6.setCell ⟨b+1,0,none⟩ v0).setCell ⟨b+1,1,none⟩ v1).setCell ⟨b+1,2,none⟩ v2).drew.cell? ⟨g2,1,none⟩=some (.string q1)∧(((w6.setCell ⟨b+1,0,none⟩ v0).setCell ⟨b+1,1,none⟩ v1).setCell ⟨b+1,2,none⟩ v2).drew.cell? ⟨g2,2,none⟩=some (.int .i64 q2)):=fun v0 v1 v2=>⟨(Bx.drew (((B3.out.far ⟨b+1,0,none⟩ HG0.out v0).far ⟨b+1,1,none⟩ HG0.out v1).far ⟨b+1,2,none⟩ HG0.out v2)).c3,(Bx.drew (((B4.out.far ⟨b+1,0,none⟩ HG2.out v0).far ⟨b+1,1,none⟩ HG2.out v1).far ⟨b+1,2,none⟩ HG2.out v2)).c3⟩
 have hS0:(w6.drew.cell? ⟨g,0,none⟩=some (.bool r0)∧w6.drew.cell? ⟨g,1,none⟩=some (.string r1)∧w6.drew.cell? ⟨g,2,none⟩=some (.int .i64 r2))∧w6.drew.cell? ⟨g2,0,none⟩=some (.bool q0)∧w6.drew.cell? ⟨g2,1,none⟩=some (.string q1)∧w6.drew.cell? ⟨g2,2,none⟩=some (.int .i64 q2):=⟨⟨c0,c1,c2⟩,d0,d1,d2⟩
 by_cases h1:r3=0
 ·by_cases h2:q3=0
  ·have hE0:=qh (show E=0 by rw[HE.out,if_pos ⟨h1,h2⟩])
   subst h1 h2;go_wp2_with fail
   refine qac (fun W=>(W.cell? ⟨g,0,none⟩=some (.bool r0)∧W.cell? ⟨g,1,none⟩=some (.string r1)∧W.cell? ⟨g,2,none⟩=some (.int .i64 r2))∧W.cell? ⟨g2,0,none⟩=some (.bool q0)∧W.cell? ⟨g2,1,none⟩=some (.string q1)∧W.cell? ⟨g2,2,none⟩=some (.int .i64 q2)) [3,4] (by kernel_rfl) ?_ (fun hHeld=>?_)
   ·first|with_reducible assumption|with_reducible exact KS.out _ _ _
   refine wS 0 33 ?_;refine wS 1 34 ?_;refine oS 2 fun K hK=>?_;go_simp;refine hK.out _ _ ?_ (fun hHeld=>?_)
   ·first|with_reducible assumption|with_reducible exact KS.out _ _ _
   clear hK K;try simp only[Act.put,tdy]
   refine eS 3 fun K hK=>?_;go_simp;refine hK.out _ _ ?_;clear hK K;try simp only[Act.put,tdy]
   refine eS 4 fun K hK=>?_;go_simp;refine hK.out _ _ ?_;clear hK K;try simp only[Act.put,tdy]
   refine dS ?_ _;go_wp2_with fail
   exact bodyPost_ret (v:=.tuple #[.agg #[.bool r0,.string r1,.int .i64 r2],.agg #[.bool q0,.string q1,.int .i64 q2],.int .i64 0]) (by simp[results,results116,go_sem,e0,e1,e2,e3,e4,e5]) rfl ⟨by rw[hE0.out],(((K1.out.trans' K6.out).qaO (b:=b+1) (by have:=HB.out;omega) _ _ _).qaO (b:=b+1+1) (by have:=HB.out;omega) _ _ _).drew'⟩
  ·have hE0:=qh (show E=4 by rw[HE.out,if_neg (fun h=>h2 h.2)])
   subst h1;go_wp2_with fail
   refine qac (fun W=>(W.cell? ⟨g,0,none⟩=some (.bool r0)∧W.cell? ⟨g,1,none⟩=some (.string r1)∧W.cell? ⟨g,2,none⟩=some (.int .i64 r2))∧W.cell? ⟨g2,0,none⟩=some (.bool q0)∧W.cell? ⟨g2,1,none⟩=some (.string q1)∧W.cell? ⟨g2,2,none⟩=some (.int .i64 q2)) [3,4] (by kernel_rfl) ?_ (fun hHeld=>?_)
   ·first|with_reducible assumption|with_reducible exact KS.out _ _ _
   refine wS 0 31 ?_;refine wS 1 32 ?_;refine oS 2 fun K hK=>?_;go_simp;refine hK.out _ _ ?_ (fun hHeld=>?_)
   ·first|with_reducible assumption|with_reducible exact KS.out _ _ _
   clear hK K;try simp only[Act.put,tdy]
   refine eS 3 fun K hK=>?_;go_simp;refine hK.out _ _ ?_;clear hK K;try simp only[Act.put,tdy]
   refine eS 4 fun K hK=>?_;go_simp;refine hK.out _ _ ?_;clear hK K;try simp only[Act.put,tdy]
   refine dS ?_ _;go_wp2_with fail
   exact bodyPost_ret (v:=.tuple #[.agg #[.bool r0,.string r1,.int .i64 r2],.agg #[.bool q0,.string q1,.int .i64 q2],.int .i64 4]) (by simp[results,results116,go_sem,e0,e1,e2,e3,e4,e5]) rfl ⟨by rw[hE0.out],(((K1.out.trans' K6.out).qaO (b:=b+1) (by have:=HB.out;omega) _ _ _).qaO (b:=b+1+1) (by have:=HB.out;omega) _ _ _).drew'⟩
 ·have hE0:=qh (show E=4 by rw[HE.out,if_neg (fun h=>h1 h.1)])
  go_wp2_with fail
  refine qac (fun W=>(W.cell? ⟨g,0,none⟩=some (.bool r0)∧W.cell? ⟨g,1,none⟩=some (.string r1)∧W.cell? ⟨g,2,none⟩=some (.int .i64 r2))∧W.cell? ⟨g2,0,none⟩=some (.bool q0)∧W.cell? ⟨g2,1,none⟩=some (.string q1)∧W.cell? ⟨g2,2,none⟩=some (.int .i64 q2)) [3,4] (by kernel_rfl) ?_ (fun hHeld=>?_)
  ·first|with_reducible assumption|with_reducible exact KS.out _ _ _
  refine wS 0 31 ?_;refine wS 1 32 ?_;refine oS 2 fun K hK=>?_;go_simp;refine hK.out _ _ ?_ (fun hHeld=>?_)
  ·first|with_reducible assumption|with_reducible exact KS.out _ _ _
  clear hK K;try simp only[Act.put,tdy]
  refine eS 3 fun K hK=>?_;go_simp;refine hK.out _ _ ?_;clear hK K;try simp only[Act.put,tdy]
  refine eS 4 fun K hK=>?_;go_simp;refine hK.out _ _ ?_;clear hK K;try simp only[Act.put,tdy]
  refine dS ?_ _;go_wp2_with fail
  exact bodyPost_ret (v:=.tuple #[.agg #[.bool r0,.string r1,.int .i64 r2],.agg #[.bool q0,.string q1,.int .i64 q2],.int .i64 4]) (by simp[results,results116,go_sem,e0,e1,e2,e3,e4,e5]) rfl ⟨by rw[hE0.out],(((K1.out.trans' K6.out).qaO (b:=b+1) (by have:=HB.out;omega) _ _ _).qaO (b:=b+1+1) (by have:=HB.out;omega) _ _ _).drew'⟩
theorem qfZ (s:SqD) (w:World) (hs:sqB s=true):
  Calls prog 75 #[.agg #[.bool s.left.neg,.string s.left.n,.int .i64 s.left.e,.bool s.low.neg,.string s.low.n,.int .i64 s.low.e,.int .i64 s.e]] w fun en w'=>en=.returned (qnE (qaY s))∧Kept w w':=by
 have ED:=qh (fun W=>qkp s W hs);unfold qaY;generalize qbi s=R at *;generalize qbs s=Q at *;obtain⟨⟨a0,a1,a2⟩,⟨a3,a4,a5⟩,a6⟩:=s;obtain⟨⟨r0,r1,r2⟩,r3⟩:=R;obtain⟨⟨q0,q1,q2⟩,q3⟩:=Q;simp only at ED⊢;clear hs;obtain⟨E,hE⟩: ∃E:Int,E=if r3=0∧q3=0 then 0 else 4:=⟨_,rfl⟩
 rw[←hE]at ED;have HE:=qh hE;clear hE;obtain⟨V,hV⟩: ∃V:Value,V=qnE (if r3=0∧q3=0 then some [⟨⟨a0,a1,a2⟩,⟨a3,a4,a5⟩⟩,⟨⟨r0,r1,r2⟩,⟨a3,a4,a5⟩⟩,⟨⟨a0,a1,a2⟩,⟨q0,q1,q2⟩⟩,⟨⟨r0,r1,r2⟩,⟨q0,q1,q2⟩⟩]else none):=⟨_,rfl⟩
 rw[←hV];have HV:=qh hV;clear hV;go_enter func75,ntmps75
 go_upto_region 1 with fail
 obtain⟨b,w1,hw,hb,B0,B1,K1,HB⟩:=qa6 w (LC3 a0 a1 a2 a3 a4 a5 a6) 26 ZL1 64;rw[←hw,←hb];clear hw hb;obtain⟨c0,c1,c2,c3,c4,c5,c6⟩:=B0.out.c7;go_upto_region 2 with (go_at_call 116;(with_reducible refine(ED.out _).mono ?_);rintro e w3 ⟨rfl,hk3⟩)
 have K4:=qh (Kept.new (Kept.new hk3 (.cells (LC0 r0 r1 r2).toArray 24)) (.cells (LC0 q0 q1 q2).toArray 24));have B2:=qh ((Bx.new w3 (LC0 r0 r1 r2) 24 w3.heap.size rfl).kept (Kept.new (Below.refl _ _) (.cells (LC0 q0 q1 q2).toArray 24)));have B3:=qh (Bx.new (World.alloc w3 (.cells (LC0 r0 r1 r2).toArray 24)) (LC0 q0 q1 q2) 24 (w3.heap.size+1) (by simp));obtain⟨g,hg⟩: ∃g,g=w3.heap.size:=⟨_,rfl⟩
 rw[←hg]at B2 B3⊢;clear hg hk3;generalize(World.alloc (World.alloc w3 (.cells (LC0 r0 r1 r2).toArray 24)) (.cells (LC0 q0 q1 q2).toArray 24))=w4 at *;clear c0 c1 c2 c3 c4 c5 c6 ED;by_cases hE0:E=0
 ·have hrq:r3=0∧q3=0:=by
   have:=HE.out;rw[hE0]at this;by_cases h:r3=0∧q3=0
   ·exact h
   ·rw [if_neg h]at this;omega
  have HV2:=qh (show V=.tuple #[.agg #[.bool a0,.string a1,.int .i64 a2,.bool a3,.string a4,.int .i64 a5,.bool r0,.string r1,.int .i64 r2,.bool a3,.string a4,.int .i64 a5,.bool a0,.string a1,.int .i64 a2,.bool q0,.string q1,.int .i64 q2,.bool r0,.string r1,.int .i64 r2,.bool q0,.string q1,.int .i64 q2],.int .i64 0] by rw[HV.out,if_pos hrq];rfl);subst hE0;go_upto_region 4 with fail
  obtain⟨c0,c1,c2,c3,c4,c5,c6⟩:=(B0.out.kept K4.out).c7;obtain⟨d0,d1,d2⟩:=B2.out.c3;obtain⟨e0,e1,e2⟩:=B3.out.c3;refine wp_region_list ?_;refine wpList_plain rfl fun K hK=>?_;first|(refine BigFrame.wp_move _ rfl (hK _ _ ?_))|(go_step;refine hK _ _ ?_)
  clear hK K;refine wpList_plain rfl fun K hK=>?_;first|(refine BigFrame.wp_move _ rfl (hK _ _ ?_))|(go_step;refine hK _ _ ?_)
  clear hK K;refine wpList_plain rfl fun K hK=>?_;first|(refine BigFrame.wp_move _ rfl (hK _ _ ?_))|(go_step;refine hK _ _ ?_)
  clear hK K;refine wpList_plain rfl fun K hK=>?_;first|(refine BigFrame.wp_move _ rfl (hK _ _ ?_))|(go_step;refine hK _ _ ?_)
  clear hK K;refine wpList_plain rfl fun K hK=>?_;first|(refine BigFrame.wp_move _ rfl (hK _ _ ?_))|(go_step;refine hK _ _ ?_)
  clear hK K;refine wpList_plain rfl fun K hK=>?_;first|(refine BigFrame.wp_move _ rfl (hK _ _ ?_))|(go_step;refine hK _ _ ?_)
  clear hK K;refine wpList_plain rfl fun K hK=>?_;first|(refine BigFrame.wp_move _ rfl (hK _ _ ?_))|(go_step;refine hK _ _ ?_)
  clear hK K;refine wpList_plain rfl fun K hK=>?_;first|(refine BigFrame.wp_move _ rfl (hK _ _ ?_))|(go_step;refine hK _ _ ?_)
  clear hK K;refine wpList_plain rfl fun K hK=>?_;first|(refine BigFrame.wp_move _ rfl (hK _ _ ?_))|(go_step;refine hK _ _ ?_)
  clear hK K;refine wpList_plain rfl fun K hK=>?_;first|(refine BigFrame.wp_move _ rfl (hK _ _ ?_))|(go_step;refine hK _ _ ?_)
  clear hK K;refine wpList_plain rfl fun K hK=>?_;first|(refine BigFrame.wp_move _ rfl (hK _ _ ?_))|(go_step;refine hK _ _ ?_)
  clear hK K;refine wpList_plain rfl fun K hK=>?_;first|(refine BigFrame.wp_move _ rfl (hK _ _ ?_))|(go_step;refine hK _ _ ?_)
  clear hK K;refine wpList_plain rfl fun K hK=>?_;first|(refine BigFrame.wp_move _ rfl (hK _ _ ?_))|(go_step;refine hK _ _ ?_)
  clear hK K;refine wpList_plain rfl fun K hK=>?_;first|(refine BigFrame.wp_move _ rfl (hK _ _ ?_))|(go_step;refine hK _ _ ?_)
  clear hK K;refine wpList_plain rfl fun K hK=>?_;first|(refine BigFrame.wp_move _ rfl (hK _ _ ?_))|(go_step;refine hK _ _ ?_)
  clear hK K;refine wpList_plain rfl fun K hK=>?_;first|(refine BigFrame.wp_move _ rfl (hK _ _ ?_))|(go_step;refine hK _ _ ?_)
  clear hK K;refine wpList_plain rfl fun K hK=>qas (LC4 a0 a1 a2 a3 a4 a5 r0 r1 r2 a3 a4 a5 a0 a1 a2 q0 q1 q2 r0 r1 r2 q0 q1 q2) _ _ rfl (by kernel_rfl) (hK _ _ ?_);clear hK K;refine wpList_plain rfl fun K hK=>qaa (b:=b+1) (n:=24) _ _ rfl rfl rfl (B1.out.kept K4.out) rfl rfl (by kernel_rfl) rfl (hK _ _ ?_);clear hK K;have B9:=qh ((B1.out.kept K4.out).row (LC4 a0 a1 a2 a3 a4 a5 r0 r1 r2 a3 a4 a5 a0 a1 a2 q0 q1 q2 r0 r1 r2 q0 q1 q2));have K9:=qh (Kept.row (K1.out.trans' K4.out) (show w.heap.size≤b+1 by have:=HB.out;omega) (LC4 a0 a1 a2 a3 a4 a5 r0 r1 r2 a3 a4 a5 a0 a1 a2 q0 q1 q2 r0 r1 r2 q0 q1 q2));generalize World.setRow _ _ _=w9 at *;refine wpList_plain rfl fun K hK=>?_;go_step;refine hK _ _ ?_;clear hK K;go_wp2_with fail
  refine qbT results75 underlying64 rfl (by kernel_rfl) rfl rfl B9.out rfl ⟨by rw[HV2.out];rfl,K9.out⟩
 ·have hrq: ¬(r3=0∧q3=0):=fun h=>hE0 (by rw[HE.out,if_pos h])
  have HE4:E=4:=by rw[HE.out,if_neg hrq]
  have HV2:=qh (show V=.tuple #[.agg ZL1.toArray,.int .i64 4] by rw[HV.out,if_neg hrq];rfl);subst HE4;go_upto_region 3 with fail
  refine wp_region_list (wpList_plain rfl fun K hK=>qas ZL1 _ _ rfl (by kernel_rfl) (hK _ _ ?_));clear hK K;refine wpList_plain rfl fun K hK=>BigFrame.wp_move _ rfl (hK _ _ ?_);clear hK K;refine wpList_plain rfl fun K hK=>qaa (b:=b+1) (n:=24) _ _ rfl rfl rfl (B1.out.kept K4.out) rfl rfl (by kernel_rfl) rfl (hK _ _ ?_);clear hK K;have B9:=qh ((B1.out.kept K4.out).row ZL1);have K9:=qh (Kept.row (K1.out.trans' K4.out) (show w.heap.size≤b+1 by have:=HB.out;omega) ZL1);generalize World.setRow _ _ _=w9 at *;go_wp2_with fail
  refine qbT results75 underlying64 rfl (by kernel_rfl) rfl rfl B9.out rfl ⟨by rw[HV2.out];rfl,K9.out⟩
def qal (s:SqD):List Value:=(LC3 s.left.neg s.left.n s.left.e s.low.neg s.low.n s.low.e s.e)
def qez (l:Option (List SqD)) (v:Value):Prop:=match l with
 |none=> ∃e:Int,e≠0∧v=.tuple #[.agg ZL2.toArray,.int .i64 e]
 |some l=>v=.tuple #[.agg (l.flatMap qal).toArray,.int .i64 0]
theorem qhf (s:SqD) (w:World) (hs:sqB s=true):
  Calls prog 87 #[.agg #[.bool s.left.neg,.string s.left.n,.int .i64 s.left.e,.bool s.low.neg,.string s.low.n,.int .i64 s.low.e,.int .i64 s.e]] w fun en w'=> ∃v,en=.returned v∧qez (qaQ s) v∧Kept w w':=by
 have MID:=qh (fun W=>qeJ s W hs);obtain⟨-,-,hs3,hs4⟩:=qax.1 hs;have HM:(qbB s).2=0∨qbB s=(zG,4):=qeY _ _;unfold qaQ;generalize qbB s=M at *;obtain⟨⟨a0,a1,a2⟩,⟨a3,a4,a5⟩,a6⟩:=s;obtain⟨⟨⟨m0,m1,m2⟩,⟨m3,m4,m5⟩⟩,m6⟩:=M;simp only at MID HM hs3 hs4⊢;have hm:m6=0∨m6=4:=HM.imp id (fun h=>(Prod.mk.inj h).2);clear hs HM;obtain⟨L,hL⟩: ∃L:Option (List SqD),L=if a6= -4096 then none else if m6=0 then some [⟨⟨a0,a1,a2⟩,⟨a3,a4,a5⟩,a6-1⟩,⟨⟨m0,m1,m2⟩,⟨a3,a4,a5⟩,a6-1⟩,⟨⟨a0,a1,a2⟩,⟨m3,m4,m5⟩,a6-1⟩,⟨⟨m0,m1,m2⟩,⟨m3,m4,m5⟩,a6-1⟩]else none:=⟨_,rfl⟩
 rw[←hL];have HL:=qh hL;clear hL;by_cases h1:a6= -4096
 ·subst h1
  go_enter func87,ntmps87
  go_upto_region 1 with fail
  obtain⟨b,w1,hw,hb,B0,B1,K1,HB⟩:=qa6 w (LC3 a0 a1 a2 a3 a4 a5 (-4096)) 26 ZL2 141;rw[←hw,←hb];clear hw hb;obtain⟨c0,c1,c2,c3,c4,c5,c6⟩:=B0.out.c7;go_upto_region 2 with fail
  refine wp_region_list (wpList_plain rfl fun K hK=>qas ZL2 _ _ rfl (by kernel_rfl) (hK _ _ ?_));clear hK K;refine wpList_plain rfl fun K hK=>qaa (b:=b+1) (n:=28) _ _ rfl rfl rfl B1.out rfl rfl (by kernel_rfl) rfl (hK _ _ ?_);clear hK K;have B9:=qh (B1.out.row ZL2);have K9:=qh (Kept.row K1.out (show w.heap.size≤b+1 by have:=HB.out;omega) ZL2);generalize World.setRow _ _ _=w9 at *;go_wp2_with fail
  refine qbT results87 underlying141 rfl (by kernel_rfl) rfl rfl B9.out rfl ⟨_,rfl,by(first|rw[HL.out,if_pos rfl]|rw[HL.out]);exact⟨240,by omega,rfl⟩,K9.out⟩
 ·have hh:IntKind.i64.wrap (a6-1)=a6-1:=IntWalk.i64_in _ (by omega)
  have H1:=qh h1;go_enter func87,ntmps87
  go_upto_region 1 with fail
  obtain⟨b,w1,hw,hb,B0,B1,K1,HB⟩:=qa6 w (LC3 a0 a1 a2 a3 a4 a5 a6) 26 ZL2 141;rw[←hw,←hb];clear hw hb;obtain⟨c0,c1,c2,c3,c4,c5,c6⟩:=B0.out.c7;go_upto_region 4 with (go_at_call 76;(with_reducible refine(MID.out _).mono ?_);rintro e w3 ⟨rfl,hk3⟩)
  have K4:=qh (Kept.new hk3 (.cells (LC1 m0 m1 m2 m3 m4 m5).toArray 28));have B2:=qh (Bx.new w3 (LC1 m0 m1 m2 m3 m4 m5) 28 w3.heap.size rfl);obtain⟨g,hg⟩: ∃g,g=w3.heap.size:=⟨_,rfl⟩
  rw[←hg]at B2⊢;clear hg hk3;generalize(w3.alloc (.cells (LC1 m0 m1 m2 m3 m4 m5).toArray 28))=w4 at *;clear c0 c1 c2 c3 c4 c5 c6 MID;rcases hm with rfl|rfl
  ·obtain⟨c0,c1,c2,c3,c4,c5,c6⟩:=(B0.out.kept K4.out).c7
   obtain⟨d0,d1,d2,d3,d4,d5⟩:=B2.out.c6;go_upto_region 7 with fail
   refine wp_region_list ?_;refine wpList_plain rfl fun K hK=>?_;first|(refine BigFrame.wp_move _ rfl (hK _ _ ?_))|(go_step;refine hK _ _ ?_)
   clear hK K;refine wpList_plain rfl fun K hK=>?_;first|(refine BigFrame.wp_move _ rfl (hK _ _ ?_))|(go_step;refine hK _ _ ?_)
   clear hK K;refine wpList_plain rfl fun K hK=>?_;first|(refine BigFrame.wp_move _ rfl (hK _ _ ?_))|(go_step;refine hK _ _ ?_)
   clear hK K;refine wpList_plain rfl fun K hK=>?_;first|(refine BigFrame.wp_move _ rfl (hK _ _ ?_))|(go_step;refine hK _ _ ?_)
   clear hK K;refine wpList_plain rfl fun K hK=>?_;first|(refine BigFrame.wp_move _ rfl (hK _ _ ?_))|(go_step;refine hK _ _ ?_)
   clear hK K;refine wpList_plain rfl fun K hK=>?_;first|(refine BigFrame.wp_move _ rfl (hK _ _ ?_))|(go_step;refine hK _ _ ?_)
   clear hK K;refine wpList_plain rfl fun K hK=>?_;first|(refine BigFrame.wp_move _ rfl (hK _ _ ?_))|(go_step;refine hK _ _ ?_)
   clear hK K;refine wpList_plain rfl fun K hK=>?_;first|(refine BigFrame.wp_move _ rfl (hK _ _ ?_))|(go_step;refine hK _ _ ?_)
   clear hK K;refine wpList_plain rfl fun K hK=>?_;first|(refine BigFrame.wp_move _ rfl (hK _ _ ?_))|(go_step;refine hK _ _ ?_)
   clear hK K;refine wpList_plain rfl fun K hK=>?_;first|(refine BigFrame.wp_move _ rfl (hK _ _ ?_))|(go_step;refine hK _ _ ?_)
   clear hK K;refine wpList_plain rfl fun K hK=>?_;first|(refine BigFrame.wp_move _ rfl (hK _ _ ?_))|(go_step;refine hK _ _ ?_)
   clear hK K;refine wpList_plain rfl fun K hK=>?_;first|(refine BigFrame.wp_move _ rfl (hK _ _ ?_))|(go_step;refine hK _ _ ?_)
   clear hK K;refine wpList_plain rfl fun K hK=>?_;first|(refine BigFrame.wp_move _ rfl (hK _ _ ?_))|(go_step;refine hK _ _ ?_)
   clear hK K;refine wpList_plain rfl fun K hK=>?_;first|(refine BigFrame.wp_move _ rfl (hK _ _ ?_))|(go_step;refine hK _ _ ?_)
   clear hK K;refine wpList_plain rfl fun K hK=>?_;first|(refine BigFrame.wp_move _ rfl (hK _ _ ?_))|(go_step;refine hK _ _ ?_)
   clear hK K;refine wpList_plain rfl fun K hK=>?_;first|(refine BigFrame.wp_move _ rfl (hK _ _ ?_))|(go_step;refine hK _ _ ?_)
   clear hK K;refine wpList_plain rfl fun K hK=>?_;first|(refine BigFrame.wp_move _ rfl (hK _ _ ?_))|(go_step;refine hK _ _ ?_)
   clear hK K;refine wpList_plain rfl fun K hK=>?_;first|(refine BigFrame.wp_move _ rfl (hK _ _ ?_))|(go_step;refine hK _ _ ?_)
   clear hK K;refine wpList_plain rfl fun K hK=>?_;first|(refine BigFrame.wp_move _ rfl (hK _ _ ?_))|(go_step;refine hK _ _ ?_)
   clear hK K;refine wpList_plain rfl fun K hK=>?_;first|(refine BigFrame.wp_move _ rfl (hK _ _ ?_))|(go_step;refine hK _ _ ?_)
   clear hK K;refine wpList_plain rfl fun K hK=>?_;first|(refine BigFrame.wp_move _ rfl (hK _ _ ?_))|(go_step;refine hK _ _ ?_)
   clear hK K;refine wpList_plain rfl fun K hK=>?_;first|(refine BigFrame.wp_move _ rfl (hK _ _ ?_))|(go_step;refine hK _ _ ?_)
   clear hK K;refine wpList_plain rfl fun K hK=>?_;first|(refine BigFrame.wp_move _ rfl (hK _ _ ?_))|(go_step;refine hK _ _ ?_)
   clear hK K;refine wpList_plain rfl fun K hK=>?_;first|(refine BigFrame.wp_move _ rfl (hK _ _ ?_))|(go_step;refine hK _ _ ?_)
   clear hK K;refine wpList_plain rfl fun K hK=>qas (LC5 a0 a1 a2 a3 a4 a5 (a6-1) m0 m1 m2 a3 a4 a5 (a6-1) a0 a1 a2 m3 m4 m5 (a6-1) m0 m1 m2 m3 m4 m5 (a6-1)) _ _ rfl (by kernel_rfl) (hK _ _ ?_);clear hK K;refine wpList_plain rfl fun K hK=>qaa (b:=b+1) (n:=28) _ _ rfl rfl rfl (B1.out.kept K4.out) rfl rfl (by kernel_rfl) rfl (hK _ _ ?_);clear hK K;have B9:=qh ((B1.out.kept K4.out).row (LC5 a0 a1 a2 a3 a4 a5 (a6-1) m0 m1 m2 a3 a4 a5 (a6-1) a0 a1 a2 m3 m4 m5 (a6-1) m0 m1 m2 m3 m4 m5 (a6-1)));have K9:=qh (Kept.row (K1.out.trans' K4.out) (show w.heap.size≤b+1 by have:=HB.out;omega) (LC5 a0 a1 a2 a3 a4 a5 (a6-1) m0 m1 m2 a3 a4 a5 (a6-1) a0 a1 a2 m3 m4 m5 (a6-1) m0 m1 m2 m3 m4 m5 (a6-1)));generalize World.setRow _ _ _=w9 at *;refine wpList_plain rfl fun K hK=>?_;go_step;refine hK _ _ ?_;clear hK K;go_wp2_with fail
   refine qbT results87 underlying141 rfl (by kernel_rfl) rfl rfl B9.out rfl ⟨_,rfl,by(first|rw[HL.out,if_neg H1.out,if_pos rfl]|rw[HL.out,if_neg H1.out]|rw[HL.out]);rfl,K9.out⟩
  ·go_upto_region 5 with fail
   refine wp_region_list (wpList_plain rfl fun K hK=>qas ZL2 _ _ rfl (by kernel_rfl) (hK _ _ ?_));clear hK K;refine wpList_plain rfl fun K hK=>BigFrame.wp_move _ rfl (hK _ _ ?_);clear hK K;refine wpList_plain rfl fun K hK=>qaa (b:=b+1) (n:=28) _ _ rfl rfl rfl (B1.out.kept K4.out) rfl rfl (by kernel_rfl) rfl (hK _ _ ?_);clear hK K;have B9:=qh ((B1.out.kept K4.out).row ZL2);have K9:=qh (Kept.row (K1.out.trans' K4.out) (show w.heap.size≤b+1 by have:=HB.out;omega) ZL2);generalize World.setRow _ _ _=w9 at *;go_wp2_with fail
   refine qbT results87 underlying141 rfl (by kernel_rfl) rfl rfl B9.out rfl ⟨_,rfl,by(first|rw[HL.out,if_neg H1.out,if_neg (by omega)]|rw[HL.out,if_neg H1.out]|rw[HL.out]);exact⟨4,by omega,rfl⟩,K9.out⟩
end
section
attribute [local go_sem] run_float_arith qaM qaN qaw qaf qad
attribute [local go_sem] Oper.semAt_some
theorem qok (x r:Nat) (h:FloatKind.f64.format.sqrt x=some r) (w:World):(callFunc 128 #[.float .f64 x]).run prog w=.ok (.value (.float .f64 r)) w:=by
 refine(Go.run_callFunc_extern (e:=Extern.MathSqrt.sqrt) func128 (by kernel_rfl) (by kernel_rfl) (by kernel_rfl) (by kernel_rfl) _ w).trans ?_
 have e:Extern.MathSqrt.sqrt #[.float .f64 x]=pure (.float .f64 r):=by
  show(match FloatKind.f64.format.sqrt x with
   |some r=>pure (.float .f64 r)
   |none=>do pure (.float .f64 (←choose (.nanBits .f64 x x))):Sem Value)=_
  rw[h]
 rw[e];rfl
theorem qm {x:Nat} (h:x≤qaS): ∃r,FloatKind.f64.format.sqrt x=some r:=by
 have key: ∃d,(Ieee.double.read x).root (Ieee.double.fractionBits+2)=some d:=by
  by_cases h1:x=qaS
  ·rw [h1,qi5 (by decide)]
   exact⟨_,rfl⟩
  ·have h2:x<qaS:=by omega
   have hb:=qgK;rw[qcz (by omega) (by unfold qb6;rw[Nat.mod_eq_of_lt (by omega)];exact decide_eq_true h2)];rw[decide_eq_false (by unfold SG;omega)];unfold Ieee.Datum.root;split
   ·rename_i hd;cases hd
   ·rename_i hd;cases hd
   ·rename_i s m i hd
    injection hd with e1 e2 e3;subst e1;split
    ·exact⟨_,rfl⟩
    ·exact⟨_,rfl⟩
 obtain⟨d,hd⟩:=key;refine⟨Ieee.double.write d,?_⟩;show((Ieee.double.read x).root (Ieee.double.fractionBits+2)).map Ieee.double.write=_;rw[hd];rfl
theorem qmf {d:DyD} (hd:qae d=true) (h:0≤d.num):qaU d≤qaS:=by
 by_cases h0:d.num=0
 ·rw [(qaj hd).2.1 h0];decide
 ·obtain⟨p,hp⟩:=qdg d.num.natAbs
  rw[qfb h0 hp,qcu hd,decide_eq_false (by omega),qdD];exact qg8 _ _
set_option maxRecDepth 100000 in
set_option maxHeartbeats 3200000 in
theorem qnq (x r:Nat) (h:FloatKind.f64.format.sqrt x=some r) (w:World):Calls prog 84 #[.float .f64 x] w fun e w'=>e=.returned (.float .f64 r)∧w'=w:=by
 have H:=qok x r h;go_enter func84,ntmps84
 go_wp2_with fail
 go_ret
 exact⟨rfl,rfl⟩
theorem qeg {d:DyD} (hd:qae d=true):qaU d<18446744073709551616:=by
 by_cases h0:d.num=0
 ·rw [(qaj hd).2.1 h0];decide
 ·obtain⟨p,hp⟩:=qdg d.num.natAbs
  rw[qfb h0 hp];have h1:=qg8 (qa8 d.num.natAbs d.e (qam p d.e)) (qam p d.e);have h2:=qgK;cases d.neg
  ·rw [qdD];omega
  ·rw [show∀x,Ieee.double.word true x=9223372036854775808+x from fun _=>rfl];omega
theorem qg5 {x:Nat} (h: ¬qb6 x=true):qa3 x=(zD,5):=by unfold qa3;rw[if_neg h]
theorem qiB (x y:Nat):gsB (qbI x y).1=true:=by
 unfold qbI;split
 ·exact qan.2 ⟨qfP x,qfP y⟩
 ·rfl
theorem qjr (x y:Nat):((qb6 x&&qb6 y)=true→(qbI x y).2=0)∧((qbI x y).2=0→(qb6 x&&qb6 y)=true∧(⟨(qa3 x).1,(qa3 y).1⟩:GsD)=(qbI x y).1):=by
 unfold qbI;refine⟨fun h=>?_,fun h=>?_⟩
 ·rw [Bool.and_eq_true]at h
  rw[if_pos ⟨qhi h.1,qhi h.2⟩]
 ·by_cases h1:(qa3 x).2=0∧(qa3 y).2=0
  ·rw [if_pos h1]
   refine⟨?_,rfl⟩;rw[Bool.and_eq_true];constructor
   ·by_cases h2:qb6 x=true
    ·exact h2
    ·rw [qg5 h2]at h1;exact absurd h1.1 (by decide)
   ·by_cases h2:qb6 y=true
    ·exact h2
    ·rw [qg5 h2]at h1;exact absurd h1.2 (by decide)
  ·rw [if_neg h1]at h;exact absurd h (by decide)
theorem qeL {z e:Int} (h:0≤z):0≤(qbb z e).1.num:=by
 unfold qbb;split
 ·exact Int.le_refl _
 ·split
  ·rw [qpm]
   exact Int.mul_nonneg (by rcases Int.lt_trichotomy z 0 with h1|h1|h1;omega;rw[h1];decide;rw[Int.sign_eq_one_of_pos h1];decide) (Int.natCast_nonneg _)
  ·exact Int.le_refl _
theorem qjV {a b:DyD} (ha:0≤a.num) (hb:0≤b.num):0≤(qaE a b).1.num:=by
 unfold qaE;split
 ·exact hb
 ·split
  ·exact ha
  ·split
   ·exact Int.le_refl _
   ·exact qeL (Int.add_nonneg (Int.mul_nonneg ha (Int.le_of_lt (Int.pow_pos (by omega)))) (Int.mul_nonneg hb (Int.le_of_lt (Int.pow_pos (by omega)))))
theorem qiy (g:GsD):0≤(qca g).1.num:=by
 unfold qca twoS;split
 ·refine qjV (qeL ?_) (qeL ?_)
  ·rcases Int.lt_trichotomy g.re.num 0 with h|h|h
   ·exact Int.le_of_lt (Int.mul_pos_of_neg_of_neg h h)
   ·rw [h];decide
   ·exact Int.le_of_lt (Int.mul_pos h h)
  ·rcases Int.lt_trichotomy g.im.num 0 with h|h|h
   ·exact Int.le_of_lt (Int.mul_pos_of_neg_of_neg h h)
   ·rw [h];decide
   ·exact Int.le_of_lt (Int.mul_pos h h)
 ·exact Int.le_refl _
end
end Go.Proofs.YtfdnledkcongaaaGreatDoor
