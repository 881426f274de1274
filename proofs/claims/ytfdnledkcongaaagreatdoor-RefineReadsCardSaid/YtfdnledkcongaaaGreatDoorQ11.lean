/- Texts of one claim laid together: TreD, TreE, TreF, TreG, OrdM, AppS, TreH. -/
import Derived.Test.YtfdnledkcongaaaGreatDoorQ10
set_option linter.all false
namespace Go.Proofs.YtfdnledkcongaaaGreatDoor
open Go.RowKit Go.Proofs.Tryz
set_option maxRecDepth 100000 in
set_option maxHeartbeats 6400000 in
theorem qi0 {w:World} {base p:Nat} {v:Value} {u:RuD} {S:StD} {k:Nat} {n:NdD} (hM:TrM w base p v u S) (hS:GoodS S) (hk:S.L[k]? =some n) (hT:T32 w) (h0:n.kids=none∧n.told=0∧n.depth<40∧S.n+3≤65536) (hP:qaQ n.sq=none):
  Calls prog 72 #[.pointer (some ⟨p,0,none⟩),.int .i64 (k:Int)] w fun en w'=> ∃x,en=.returned x∧qdy none x∧Kept w w':=by
 obtain⟨g,off,c,rfl,hbg,hgl,hgp,hcell,-⟩:=hM.form hS.pos;have hlt:(k:Int)<((S.L.length:Nat):Int):=by have:=(List.getElem?_eq_some_iff.1 hk).1;omega
 have h0k:(0:Int)≤(k:Int):=by omega
 have hnd:=hcell k n;have bp:=hM.box;generalize S.L.length=N at *;have PT:=qh (fun W=>qcV n W);have hn:=hS.nd k n hk;have hsq:=hn.sq;have hpb:=qbS hS hk;obtain⟨e1,e2,e3,e4⟩:=h0;rw[e1]at hpb;have hpb2:qb4 n=false:=hpb;rw[hpb2]at PT;have PA:Hid (∀W,Kept w W→Calls prog 115 #[.agg #[.bool n.sq.left.neg,.string n.sq.left.n,.int .i64 n.sq.left.e,.bool n.sq.low.neg,.string n.sq.low.n,.int .i64 n.sq.low.e,.int .i64 n.sq.e]] W fun en w'=> ∃v,en=.returned v∧qez (qaQ n.sq) v∧Kept W w'):=fun W h=>qh7 n.sq W hsq (hT.kept h);obtain⟨m,hm⟩: ∃m:Nat,m=S.n+3:=⟨_,rfl⟩
 have ew:IntKind.i64.wrap ((S.n:Int)+3)=(m:Int):=by rw[IntWalk.i64_in _ (by omega)];omega
 have h4:(n.depth:Int)<40:=by omega
 have h5:(((n.told:Int)) != 0)=false:=by simpa using e2
 have h6:(m:Int)≤65536:=by omega
 clear hm;generalize S.n=sn at *;have HT:=qh hT;rw[hP]at PA;clear hP;clear hpb hpb2 e1 e2 e3 e4 hn hsq hT;obtain⟨⟨⟨a0,a1,a2⟩,⟨a3,a4,a5⟩,a6⟩,t,d,ks⟩:=n;have HC:Hid (∀i y,(ndV ⟨⟨⟨a0,a1,a2⟩,⟨a3,a4,a5⟩,a6⟩,t,d,ks⟩)[i]? =some y→w.cell? ⟨g,off+k*13+i,none⟩=some y):=fun i y hy=>by rw[Nat.add_assoc];exact hnd i y hk hy
 unfold ndV at HC PT;generalize NdD.kid ⟨⟨⟨a0,a1,a2⟩,⟨a3,a4,a5⟩,a6⟩,t,d,ks⟩=KK at *;obtain⟨k0,k1,k2,k3⟩:=KK;simp only at PT HC⊢;have BP:=qh bp;have HPL:=qh (show p<w.heap.size from bp.lt);clear hM hcell hnd hk hbg bp;go_enter func72,ntmps72
 go_upto_region 1 with fail
 obtain⟨b,w1,hw,hb,B0,B1,K1,HB⟩:=qa6 w ZL2 141 ZL3 142;rw[←hw,←hb];clear hw hb;have c1:=(BP.out.kept K1.out).c 1 rfl;refine wp_region_list ?_;refine wpList_plain rfl fun K hK=>?_;go_step;refine hK _ _ ?_;clear hK K;refine wpList_plain rfl fun K hK=>?_;go_step;refine hK _ _ ?_;clear hK K;refine wpList_plain rfl fun K hK=>?_;go_step;refine hK _ _ ?_;clear hK K;refine wpList_plain rfl fun K hK=>?_;go_step;refine hK _ _ ?_;clear hK K;refine wpList_plain rfl fun K hK=>?_;go_step;refine hK _ _ ?_;clear hK K;refine wpList_plain rfl fun K hK=>?_;go_step;refine hK _ _ ?_;clear hK K;have HW:=qh (fun i y hy=>(K1.out.cells g (off+k*13+i) hgl).trans (HC.out i y hy));refine wpList_plain rfl fun K hK=>qau (g:=g) (off:=off+k*13) (n:=13) _ rfl rfl HW.out rfl underlying91 rfl (by kernel_rfl) (hK _ _ ?_);clear hK K HW HC;refine wpList_plain rfl fun K hK=>?_;go_step;refine hK _ _ ?_;clear hK K;have K4:=qh (Kept.new (Below.refl _ w1) (.cells #[.bool false,.string ⟨#[]⟩,.int .i64 0,.bool false,.string ⟨#[]⟩,.int .i64 0,.int .i64 0,.int .u8 0,.int .i64 0,.int .i64 0,.int .i64 0,.int .i64 0,.int .i64 0] 91));have B2:=qh (Bx.new w1 [.bool false,.string ⟨#[]⟩,.int .i64 0,.bool false,.string ⟨#[]⟩,.int .i64 0,.int .i64 0,.int .u8 0,.int .i64 0,.int .i64 0,.int .i64 0,.int .i64 0,.int .i64 0] 91 w1.heap.size rfl);obtain⟨h,hh⟩: ∃h,h=w1.heap.size:=⟨_,rfl⟩
 have HG:=qh (show w1.heap.size≤h by omega);rw[←hh]at B2⊢;clear hh;generalize World.alloc w1 _=w4 at *;refine wpList_plain rfl fun K hK=>qaa (b:=h) (n:=13) _ _ rfl rfl rfl B2.out rfl rfl (by kernel_rfl) rfl (hK _ _ ?_);clear hK K;replace B2:=qh (B2.out.row [.bool a0,.string a1,.int .i64 a2,.bool a3,.string a4,.int .i64 a5,.int .i64 a6,.int .u8 t,.int .i64 d,.int .i64 k0,.int .i64 k1,.int .i64 k2,.int .i64 k3]);replace K4:=qh (Kept.row K4.out HG.out [.bool a0,.string a1,.int .i64 a2,.bool a3,.string a4,.int .i64 a5,.int .i64 a6,.int .u8 t,.int .i64 d,.int .i64 k0,.int .i64 k1,.int .i64 k2,.int .i64 k3]);generalize World.setRow w4 _ _=w5 at *;go_upto_region 3 with fail
 have K6:=qh (Kept.new K4.out (.cells ZL3.toArray 142));have B3:=qh (Bx.new w5 ZL3 142 w5.heap.size rfl);replace B2:=qh (B2.out.kept (Kept.new (Below.refl _ _) (.cells ZL3.toArray 142)));have HQ:=qh (show w1.heap.size≤w5.heap.size from K4.out.size);obtain⟨q,hq⟩: ∃q,q=w5.heap.size:=⟨_,rfl⟩
 rw[←hq]at B3 HQ⊢;clear hq K4;generalize World.alloc w5 _=w6 at *;clear c1;simp only at PA h4 h5;refine wp_region_list ?_;refine wpList_plain rfl fun K hK=>qag (b:=h) (n:=13) _ rfl rfl B2.out rfl underlying91 rfl (by kernel_rfl) (hK _ _ ?_);clear hK K;go_upto_region 5 with (go_at_call 36;(with_reducible refine(PT.out _).mono ?_);rintro e w7 ⟨rfl,hk7⟩;have d7:=(B2.out.kept hk7).c 7 rfl;have d8:=(B2.out.kept hk7).c 8 rfl;have p2:=(((BP.out.kept K1.out).kept K6.out).kept hk7).c 2 rfl)
 have K8:=qh (K6.out.trans' hk7);replace B2:=qh (B2.out.kept hk7);replace B3:=qh (B3.out.kept hk7);clear d7 d8 p2 hk7 K6;refine wp_region_list ?_;refine wpList_plain rfl fun K hK=>?_;go_step;refine hK _ _ ?_;clear hK K;have HA:=qh (B2.out.at_ 0 7);refine wpList_plain rfl fun K hK=>qau (vs:=(LC3 a0 a1 a2 a3 a4 a5 a6)) (g:=h) (off:=0) (n:=7) _ rfl rfl HA.out rfl underlying26 rfl (by kernel_rfl) (hK _ _ ?_);clear hK K HA;refine wpList_plain rfl fun K hK=>?_;go_step;(with_reducible refine(PA.out _ (K1.out.trans' K8.out)).mono ?_)
 rintro e w8 ⟨x,rfl,hx,hk8⟩;obtain⟨f,hf,rfl⟩:=hx;refine hK _ _ ?_;clear hK K;refine wpList_plain rfl fun K hK=>?_;go_step;refine hK _ _ ?_;clear hK K;refine wpList_plain rfl fun K hK=>?_;go_step;refine hK _ _ ?_;clear hK K;refine wpList_plain rfl fun K hK=>?_;go_step;refine hK _ _ ?_;clear hK K;refine wpList_plain rfl fun K hK=>?_;go_step;refine hK _ _ ?_;clear hK K;have K9:=qh (Kept.new (K8.out.trans' hk8) (.cells ZL2.toArray 141));have HG2:=qh (show w1.heap.size≤w8.heap.size from(K8.out.trans' hk8).size);replace B2:=qh ((B2.out.kept hk8).kept (Kept.new (Below.refl _ _) (.cells ZL2.toArray 141)));replace B3:=qh (B3.out.kept hk8);have HQ8:=qh (show q<w8.heap.size from B3.out.lt);replace B3:=qh (B3.out.kept (Kept.new (Below.refl _ _) (.cells ZL2.toArray 141)));have B4:=qh (Bx.new w8 ZL2 141 w8.heap.size rfl);obtain⟨j,hj⟩: ∃j,j=w8.heap.size:=⟨_,rfl⟩
 rw[←hj]at B4 HG2 HQ8⊢;clear hj hk8 K8;generalize World.alloc w8 _=w9 at *;refine wpList_plain rfl fun K hK=>qaa (vs:=ZL2) (b:=j) (n:=28) _ _ rfl rfl rfl B4.out rfl rfl (by kernel_rfl) rfl (hK _ _ ?_);clear hK K;replace B4:=qh (B4.out.row ZL2);replace B3:=qh (B3.out.off (g:=j) (by have:=HQ8.out;omega) ZL2);replace K9:=qh (Kept.row K9.out HG2.out ZL2);generalize World.setRow w9 _ _=w10 at *;have hf2:(f != 0)=true:=by simpa using hf
 go_upto_region 7 with fail
 have KX:=qh K9.out;have QB:=qh B3.out;have XB:=qh B4.out;have KD:=qh (show Kept w1 (w10).drew from KX.out.trans' (Below.refl _ w10).drew);have B0d:=qh (B0.out.kept KD.out);have B1d:=qh (B1.out.kept KD.out);have HNE:=qh (show q≠b∧q≠b+1 from by have h1:=(B1.out).lt;have h2:=HQ.out;omega);have HNX:=qh (show j≠b∧j≠b+1 from by have h1:=(B1.out).lt;have h2:=HG2.out;omega);have hS0:Bx (w10).drew q ZL3∧Bx (w10).drew j ZL2:=⟨QB.out.kept (Below.refl _ w10).drew,XB.out.kept (Below.refl _ w10).drew⟩
 refine qac (fun W=>Bx W q ZL3∧Bx W j ZL2) [4] (by kernel_rfl) ?_ (fun hHeld=>?_)
 ·assumption
 refine yS (v:=.agg ZL2.toArray) 0 50 ?_ ?_
 ·intro w hSw;(try dsimp only at hSw);exact qao (vs:=ZL2) (n:=28) _ rfl rfl hSw.2 rfl underlying141 rfl (by kernel_rfl)
 try simp only[Act.put,tdy]
 refine yS (v:=.agg ZL3.toArray) 1 51 ?_ ?_
 ·intro w hSw;(try dsimp only at hSw);exact qao (vs:=ZL3) (n:=8) _ rfl rfl hSw.1 rfl underlying142 rfl (by kernel_rfl)
 try simp only[Act.put,tdy]
 refine oS 2 fun K hK=>?_;(refine qaH rfl (qaa (vs:=ZL2) (b:=b) (n:=28) _ _ rfl rfl rfl B0d.out rfl rfl (by kernel_rfl) rfl ?_);have hS1:Bx (World.setRow (w10).drew (b) ZL2.toArray) q ZL3∧Bx (World.setRow (w10).drew (b) ZL2.toArray) j ZL2:=⟨hS0.1.off HNE.out.1 ZL2,hS0.2.off HNX.out.1 ZL2⟩)
 refine hK.out _ _ ?_ (fun hHeld=>?_)
 ·assumption
 clear hK K;try simp only[Act.put,List.setIfInBounds_toArray]
 refine oS 3 fun K hK=>?_;(refine qaH rfl (qaa (vs:=ZL3) (b:=b+1) (n:=8) _ _ rfl rfl rfl (B1d.out.off (g:=b) (by omega) ZL2) rfl rfl (by kernel_rfl) rfl ?_);have hS2:Bx (World.setRow (World.setRow (w10).drew (b) ZL2.toArray) (b+1) ZL3.toArray) q ZL3∧Bx (World.setRow (World.setRow (w10).drew (b) ZL2.toArray) (b+1) ZL3.toArray) j ZL2:=⟨hS1.1.off HNE.out.2 ZL3,hS1.2.off HNX.out.2 ZL3⟩)
 refine hK.out _ _ ?_ (fun hHeld=>?_)
 ·assumption
 clear hK K;try simp only[Act.put,List.setIfInBounds_toArray]
 refine eS 4 fun K hK=>?_;go_simp;refine hK.out _ _ ?_;clear hK K;try simp only[Act.put,tdy]
 refine dS ?_ _;go_wp2_with fail
 refine qew results72 underlying141 rfl (by kernel_rfl) underlying142 rfl (by kernel_rfl) rfl rfl rfl ((B0d.out.row ZL2).off (g:=b+1) (by omega) ZL3) rfl ((B1d.out.off (g:=b) (by omega) ZL2).row ZL3) rfl ⟨_,rfl,⟨ZL2,ZL3,rfl,rfl,rfl,rfl,rfl⟩,Kept.rows (K1.out.trans' KD.out) (show w.heap.size≤b from HB.out) (show w.heap.size≤b+1 by have:=HB.out;omega) _ _⟩
section
attribute [local go_sem] qaf qad
def cvl (qs:List SqD) (k:Nat):List Value:=(qs.take k).flatMap qlU++(List.replicate (4-k) [.complex .f64 0 0,.float .f64 0]).flatten
theorem qnD (q0 q1 q2 q3:SqD) {k:Nat} (hk:k<4) {G:SqD} (hG:[q0,q1,q2,q3][k]? =some G):cvl [q0,q1,q2,q3] (k+1)=((cvl [q0,q1,q2,q3] k).set (k*2) (.complex .f64 (qah G).1.re (qah G).1.im)).set (k*2+1) (.float .f64 (qah G).1.r):=by
 rcases(show k=0∨k=1∨k=2∨k=3 by omega)with rfl|rfl|rfl|rfl<;>(cases hG;rfl)
theorem qo7 (q0 q1 q2 q3:SqD) {k:Nat} (hk:k≤4):(cvl [q0,q1,q2,q3] k).length=8∧(cvl [q0,q1,q2,q3] k).all Value.oneCell'=true:=by
 rcases(show k=0∨k=1∨k=2∨k=3∨k=4 by omega)with rfl|rfl|rfl|rfl|rfl<;>exact⟨rfl,rfl⟩
theorem qpG (q0 q1 q2 q3:SqD) {k:Nat} (hk:k<4):(cvl [q0,q1,q2,q3] k)[k*2]? =some (.complex .f64 0 0)∧(cvl [q0,q1,q2,q3] k)[k*2+1]? =some (.float .f64 0):=by
 rcases(show k=0∨k=1∨k=2∨k=3 by omega)with rfl|rfl|rfl|rfl<;>exact⟨rfl,rfl⟩
set_option maxRecDepth 100000 in
set_option maxHeartbeats 6400000 in
theorem qiI {w:World} {base p:Nat} {v:Value} {u:RuD} {S:StD} {k:Nat} {n:NdD} (hM:TrM w base p v u S) (hS:GoodS S) (hk:S.L[k]? =some n) {q0 q1 q2 q3:SqD} (hT:T32 w) (h0:n.kids=none∧n.told=0∧n.depth<40∧S.n+3≤65536) (hP:qaQ n.sq=some [q0,q1,q2,q3]):
  Calls prog 72 #[.pointer (some ⟨p,0,none⟩),.int .i64 (k:Int)] w fun en w'=> ∃x,en=.returned x∧qdy (qav S k) x∧Kept w w':=by
 obtain⟨g,off,c,rfl,hbg,hgl,hgp,hcell,-⟩:=hM.form hS.pos;have hlt:(k:Int)<((S.L.length:Nat):Int):=by have:=(List.getElem?_eq_some_iff.1 hk).1;omega
 have h0k:(0:Int)≤(k:Int):=by omega
 have hnd:=hcell k n;have bp:=hM.box;generalize S.L.length=N at *;have PT:=qh (fun W=>qcV n W)
 have hV:qav S k=(qbN n.sq).map fun q=>(n,q):=by
  unfold qav;rw[hk];simp only;rw[if_pos h0]
 have HV1:Hid (∀ (i:Nat) (G:SqD),[q0,q1,q2,q3][i]? =some G→(qah G).2≠0→qav S k=none):=fun i G hi hc=>by
  rw[hV];unfold qbN;rw[hP];simp only;rw[if_neg]
  ·rfl
  ·rintro⟨c0,c1,c2,c3⟩
   match i,hi with
   |0,hi=>cases hi;exact hc c0
   |1,hi=>cases hi;exact hc c1
   |2,hi=>cases hi;exact hc c2
   |3,hi=>cases hi;exact hc c3
   |i+4,hi=>simp at hi
 have HV2:Hid ((∀ (i:Nat) (G:SqD),i<4→[q0,q1,q2,q3][i]? =some G→(qah G).2=0)→qav S k=some (n,q0,q1,q2,q3)):=fun hc=>by
  rw[hV];unfold qbN;rw[hP];simp only;rw[if_pos ⟨hc 0 _ (by omega) rfl,hc 1 _ (by omega) rfl,hc 2 _ (by omega) rfl,hc 3 _ (by omega) rfl⟩];rfl
 have hok:=(qcL (hS.nd k n hk).sq hP).2;obtain⟨QL,hQL⟩: ∃QL,QL=sq4 (q0,q1,q2,q3):=⟨_,rfl⟩
 obtain⟨qs,hqs⟩: ∃qs,qs=[q0,q1,q2,q3]:=⟨_,rfl⟩
 have HLN:=qh (show QL.length=28 by rw[hQL];rfl);have HOC:=qh (show QL.all Value.oneCell'=true by rw[hQL];rfl)
 have CK:Hid (∀m:Nat,m<4→∃G:SqD,qs[m]? =some G∧sqB G=true∧(∀W,(Instr.index 141 (.agg QL.toArray) (.int .i64 (m:Int))).run prog W=.ok (.agg #[.bool G.left.neg,.string G.left.n,.int .i64 G.left.e,.bool G.low.neg,.string G.low.n,.int .i64 G.low.e,.int .i64 G.e]) W)∧cvl qs (m+1)=((cvl qs m).set (m*2) (.complex .f64 (qah G).1.re (qah G).1.im)).set (m*2+1) (.float .f64 (qah G).1.r)∧(cvl qs m)[m*2]? =some (.complex .f64 0 0)∧(cvl qs m)[m*2+1]? =some (.float .f64 0)):=by
  intro m hm;rw[hQL,hqs];have h1:= @qnD q0 q1 q2 q3 m hm;have h2:=qpG q0 q1 q2 q3 hm;rcases(show m=0∨m=1∨m=2∨m=3 by omega)with rfl|rfl|rfl|rfl
  ·exact⟨q0,rfl,hok q0 (by simp),fun W=>by kernel_rfl,h1 rfl,h2⟩
  ·exact⟨q1,rfl,hok q1 (by simp),fun W=>by kernel_rfl,h1 rfl,h2⟩
  ·exact⟨q2,rfl,hok q2 (by simp),fun W=>by kernel_rfl,h1 rfl,h2⟩
  ·exact⟨q3,rfl,hok q3 (by simp),fun W=>by kernel_rfl,h1 rfl,h2⟩
 have CL:Hid (∀m:Nat,m≤4→(cvl qs m).length=8∧(cvl qs m).all Value.oneCell'=true):=fun m hm=>by rw[hqs];exact qo7 q0 q1 q2 q3 hm
 have C0:=qh (show cvl qs 0=ZL3 by rw[hqs];rfl);have RS:Hid (∀x,x=.tuple #[.agg QL.toArray,.agg (cvl qs 4).toArray,.bool true]→qdy (some (n,q0,q1,q2,q3)) x):=fun x hx=>by rw[hx,hQL,hqs];rfl
 have PR: ∀v,qez (some [q0,q1,q2,q3]) v→v=.tuple #[.agg QL.toArray,.int .i64 0]:=fun v hv=>by rw[hQL];exact hv
 rw[←hqs]at HV1 HV2 hP PR;clear hV hok hQL;generalize qav S k=V at *;have hn:=hS.nd k n hk;have hsq:=hn.sq;have hpb:=qbS hS hk;obtain⟨e1,e2,e3,e4⟩:=h0;rw[e1]at hpb;have hpb2:qb4 n=false:=hpb;rw[hpb2]at PT;have PA:Hid (∀W,Kept w W→Calls prog 115 #[.agg #[.bool n.sq.left.neg,.string n.sq.left.n,.int .i64 n.sq.left.e,.bool n.sq.low.neg,.string n.sq.low.n,.int .i64 n.sq.low.e,.int .i64 n.sq.e]] W fun en w'=> ∃v,en=.returned v∧qez (qaQ n.sq) v∧Kept W w'):=fun W h=>qh7 n.sq W hsq (hT.kept h);obtain⟨m,hm⟩: ∃m:Nat,m=S.n+3:=⟨_,rfl⟩
 have ew:IntKind.i64.wrap ((S.n:Int)+3)=(m:Int):=by rw[IntWalk.i64_in _ (by omega)];omega
 have h4:(n.depth:Int)<40:=by omega
 have h5:(((n.told:Int)) != 0)=false:=by simpa using e2
 have h6:(m:Int)≤65536:=by omega
 clear hm;generalize S.n=sn at *;have HT:=qh hT;rw[hP]at PA;replace PA:Hid (∀W,Kept w W→Calls prog 115 #[.agg #[.bool n.sq.left.neg,.string n.sq.left.n,.int .i64 n.sq.left.e,.bool n.sq.low.neg,.string n.sq.low.n,.int .i64 n.sq.low.e,.int .i64 n.sq.e]] W fun en w'=>en=.returned (.tuple #[.agg QL.toArray,.int .i64 0])∧Kept W w'):=fun W h=>(PA W h).mono fun en w' ⟨v,he,hr,hk⟩=>⟨by rw[he,PR v hr],hk⟩
 obtain⟨RR,hRR⟩: ∃RR:Value→Prop,RR=qdy (some (n,q0,q1,q2,q3)):=⟨_,rfl⟩
 rw[←hRR]at RS;have HRR:Hid ((∀ (i:Nat) (G:SqD),i<4→qs[i]? =some G→(qah G).2=0)→∀x,RR x→qdy V x):=fun h x hx=>by rw[HV2 h,←hRR];exact hx
 have HNO:Hid (∀ (i:Nat) (G:SqD),qs[i]? =some G→(qah G).2≠0→∀x,qdy none x→qdy V x):=fun i G h h2 x hx=>by rw[HV1 i G h h2];exact hx
 have COV:Hid (∀W G,Kept w W→sqB G=true→Calls prog 31 #[.agg #[.bool G.left.neg,.string G.left.n,.int .i64 G.left.e,.bool G.low.neg,.string G.low.n,.int .i64 G.low.e,.int .i64 G.e]] W fun en w'=>en=.returned (qic (qah G))∧Kept W w'):=fun W G h hG=>qhY G W hG (hT.kept h);clear hP HV1 HV2 PR hRR hqs;clear hpb hpb2 e1 e2 e3 e4 hn hsq hT;obtain⟨⟨⟨a0,a1,a2⟩,⟨a3,a4,a5⟩,a6⟩,t,d,ks⟩:=n;have HC:Hid (∀i y,(ndV ⟨⟨⟨a0,a1,a2⟩,⟨a3,a4,a5⟩,a6⟩,t,d,ks⟩)[i]? =some y→w.cell? ⟨g,off+k*13+i,none⟩=some y):=fun i y hy=>by rw[Nat.add_assoc];exact hnd i y hk hy
 unfold ndV at HC PT;generalize NdD.kid ⟨⟨⟨a0,a1,a2⟩,⟨a3,a4,a5⟩,a6⟩,t,d,ks⟩=KK at *;obtain⟨k0,k1,k2,k3⟩:=KK;simp only at PT HC⊢;have BP:=qh bp;have HPL:=qh (show p<w.heap.size from bp.lt);clear hM hcell hnd hk hbg bp;go_enter func72,ntmps72
 go_upto_region 1 with fail
 obtain⟨b,w1,hw,hb,B0,B1,K1,HB⟩:=qa6 w ZL2 141 ZL3 142;rw[←hw,←hb];clear hw hb;have c1:=(BP.out.kept K1.out).c 1 rfl;refine wp_region_list ?_;refine wpList_plain rfl fun K hK=>?_;go_step;refine hK _ _ ?_;clear hK K;refine wpList_plain rfl fun K hK=>?_;go_step;refine hK _ _ ?_;clear hK K;refine wpList_plain rfl fun K hK=>?_;go_step;refine hK _ _ ?_;clear hK K;refine wpList_plain rfl fun K hK=>?_;go_step;refine hK _ _ ?_;clear hK K;refine wpList_plain rfl fun K hK=>?_;go_step;refine hK _ _ ?_;clear hK K;refine wpList_plain rfl fun K hK=>?_;go_step;refine hK _ _ ?_;clear hK K;have HW:=qh (fun i y hy=>(K1.out.cells g (off+k*13+i) hgl).trans (HC.out i y hy));refine wpList_plain rfl fun K hK=>qau (g:=g) (off:=off+k*13) (n:=13) _ rfl rfl HW.out rfl underlying91 rfl (by kernel_rfl) (hK _ _ ?_);clear hK K HW HC;refine wpList_plain rfl fun K hK=>?_;go_step;refine hK _ _ ?_;clear hK K;have K4:=qh (Kept.new (Below.refl _ w1) (.cells #[.bool false,.string ⟨#[]⟩,.int .i64 0,.bool false,.string ⟨#[]⟩,.int .i64 0,.int .i64 0,.int .u8 0,.int .i64 0,.int .i64 0,.int .i64 0,.int .i64 0,.int .i64 0] 91));have B2:=qh (Bx.new w1 [.bool false,.string ⟨#[]⟩,.int .i64 0,.bool false,.string ⟨#[]⟩,.int .i64 0,.int .i64 0,.int .u8 0,.int .i64 0,.int .i64 0,.int .i64 0,.int .i64 0,.int .i64 0] 91 w1.heap.size rfl);obtain⟨h,hh⟩: ∃h,h=w1.heap.size:=⟨_,rfl⟩
 have HG:=qh (show w1.heap.size≤h by omega);rw[←hh]at B2⊢;clear hh;generalize World.alloc w1 _=w4 at *;refine wpList_plain rfl fun K hK=>qaa (b:=h) (n:=13) _ _ rfl rfl rfl B2.out rfl rfl (by kernel_rfl) rfl (hK _ _ ?_);clear hK K;replace B2:=qh (B2.out.row [.bool a0,.string a1,.int .i64 a2,.bool a3,.string a4,.int .i64 a5,.int .i64 a6,.int .u8 t,.int .i64 d,.int .i64 k0,.int .i64 k1,.int .i64 k2,.int .i64 k3]);replace K4:=qh (Kept.row K4.out HG.out [.bool a0,.string a1,.int .i64 a2,.bool a3,.string a4,.int .i64 a5,.int .i64 a6,.int .u8 t,.int .i64 d,.int .i64 k0,.int .i64 k1,.int .i64 k2,.int .i64 k3]);generalize World.setRow w4 _ _=w5 at *;go_upto_region 3 with fail
 have K6:=qh (Kept.new K4.out (.cells ZL3.toArray 142));have B3:=qh (Bx.new w5 ZL3 142 w5.heap.size rfl);replace B2:=qh (B2.out.kept (Kept.new (Below.refl _ _) (.cells ZL3.toArray 142)));have HQ:=qh (show w1.heap.size≤w5.heap.size from K4.out.size);obtain⟨q,hq⟩: ∃q,q=w5.heap.size:=⟨_,rfl⟩
 rw[←hq]at B3 HQ⊢;clear hq K4;generalize World.alloc w5 _=w6 at *;clear c1;simp only at PA h4 h5;refine wp_region_list ?_;refine wpList_plain rfl fun K hK=>qag (b:=h) (n:=13) _ rfl rfl B2.out rfl underlying91 rfl (by kernel_rfl) (hK _ _ ?_);clear hK K;go_upto_region 5 with (go_at_call 36;(with_reducible refine(PT.out _).mono ?_);rintro e w7 ⟨rfl,hk7⟩;have d7:=(B2.out.kept hk7).c 7 rfl;have d8:=(B2.out.kept hk7).c 8 rfl;have p2:=(((BP.out.kept K1.out).kept K6.out).kept hk7).c 2 rfl)
 have K8:=qh (K6.out.trans' hk7);replace B2:=qh (B2.out.kept hk7);replace B3:=qh (B3.out.kept hk7);clear d7 d8 p2 hk7 K6;refine wp_region_list ?_;refine wpList_plain rfl fun K hK=>?_;go_step;refine hK _ _ ?_;clear hK K;have HA:=qh (B2.out.at_ 0 7);refine wpList_plain rfl fun K hK=>qau (vs:=(LC3 a0 a1 a2 a3 a4 a5 a6)) (g:=h) (off:=0) (n:=7) _ rfl rfl HA.out rfl underlying26 rfl (by kernel_rfl) (hK _ _ ?_);clear hK K HA;refine wpList_plain rfl fun K hK=>?_;go_step;(with_reducible refine(PA.out _ (K1.out.trans' K8.out)).mono ?_)
 rintro e w8 ⟨rfl,hk8⟩;refine hK _ _ ?_;clear hK K;refine wpList_plain rfl fun K hK=>?_;go_step;refine hK _ _ ?_;clear hK K;refine wpList_plain rfl fun K hK=>?_;go_step;refine hK _ _ ?_;clear hK K;refine wpList_plain rfl fun K hK=>?_;go_step;refine hK _ _ ?_;clear hK K;refine wpList_plain rfl fun K hK=>?_;go_step;refine hK _ _ ?_;clear hK K;have K9:=qh (Kept.new (K8.out.trans' hk8) (.cells ZL2.toArray 141));have HG2:=qh (show w1.heap.size≤w8.heap.size from(K8.out.trans' hk8).size);replace B2:=qh ((B2.out.kept hk8).kept (Kept.new (Below.refl _ _) (.cells ZL2.toArray 141)));replace B3:=qh (B3.out.kept hk8);have HQ8:=qh (show q<w8.heap.size from B3.out.lt);replace B3:=qh (B3.out.kept (Kept.new (Below.refl _ _) (.cells ZL2.toArray 141)));have B4:=qh (Bx.new w8 ZL2 141 w8.heap.size rfl);obtain⟨j,hj⟩: ∃j,j=w8.heap.size:=⟨_,rfl⟩
 rw[←hj]at B4 HG2 HQ8⊢;clear hj hk8 K8;generalize World.alloc w8 _=w9 at *;refine wpList_plain rfl fun K hK=>qaa (vs:=QL) (b:=j) (n:=28) _ _ rfl rfl rfl B4.out HLN.out rfl (by kernel_rfl) HOC.out (hK _ _ ?_);clear hK K;replace B4:=qh (B4.out.row QL);replace B3:=qh (B3.out.off (g:=j) (by have:=HQ8.out;omega) QL);replace K9:=qh (Kept.row K9.out HG2.out QL);generalize World.setRow w9 _ _=w10 at *;clear PA;have hcl:=CL.out;go_upto_region 8 with fail
 refine wp_region_list ?_;refine wpList_plain rfl fun K hK=>qag (vs:=QL) (b:=j) (n:=28) _ rfl rfl B4.out HLN.out underlying141 rfl (by kernel_rfl) (hK _ _ ?_);clear hK K;refine wpList_plain rfl fun K hK=>?_;go_step;refine hK _ _ ?_;clear hK K;clear hcl;go_wp2_with fail
 go_loopg [10,11,12,53] 4 (fun gh v10 v11 v12 v53 wr=> ∃m:Nat,m+gh=4∧v53=.int .i64 (m:Int)∧Bx wr q (cvl qs m)∧Bx wr j QL∧Kept w1 wr∧∀(i:Nat) (G:SqD),i<m→qs[i]? =some G→(qah G).2=0)
 case atStart=>exact⟨0,by omega,rfl,by rw[C0.out];exact B3.out,B4.out,K9.out,fun i G hi=>by omega⟩
 case round=>
  clear B3 B4 K9 B2;obtain⟨m,hmg,rfl,b3,b4,hk9,hall⟩:=hrel;have B3:=qh b3;have B4:=qh b4;have K9:=qh hk9;have HALL:=qh hall;clear b3 b4 hk9 hall;clear h6 ew;cases gk with
  |zero=>
   obtain rfl:m=4:=by omega
   go_upto_region 15 with fail
   have KX:=qh K9.out;have QB:=qh B3.out;have XB:=qh B4.out;have KD:=qh (show Kept w1 (wr).drew from KX.out.trans' (Below.refl _ wr).drew);have B0d:=qh (B0.out.kept KD.out);have B1d:=qh (B1.out.kept KD.out);have HNE:=qh (show q≠b∧q≠b+1 from by have h1:=(B1.out).lt;have h2:=HQ.out;omega);have HNX:=qh (show j≠b∧j≠b+1 from by have h1:=(B1.out).lt;have h2:=HG2.out;omega);have hS0:Bx (wr).drew q (cvl qs 4)∧Bx (wr).drew j QL:=⟨QB.out.kept (Below.refl _ wr).drew,XB.out.kept (Below.refl _ wr).drew⟩
   refine qac (fun W=>Bx W q (cvl qs 4)∧Bx W j QL) [4] (by kernel_rfl) ?_ (fun hHeld=>?_)
   ·assumption
   refine yS (v:=.agg QL.toArray) 0 69 ?_ ?_
   ·intro w hSw;(try dsimp only at hSw);exact qao (vs:=QL) (n:=28) _ rfl rfl hSw.2 HLN.out underlying141 rfl (by kernel_rfl)
   try simp only[Act.put,tdy]
   refine yS (v:=.agg (cvl qs 4).toArray) 1 70 ?_ ?_
   ·intro w hSw;(try dsimp only at hSw);exact qao (vs:=(cvl qs 4)) (n:=8) _ rfl rfl hSw.1 (CL.out 4 (by omega)).1 underlying142 rfl (by kernel_rfl)
   try simp only[Act.put,tdy]
   refine oS 2 fun K hK=>?_;(refine qaH rfl (qaa (vs:=QL) (b:=b) (n:=28) _ _ rfl rfl rfl B0d.out HLN.out rfl (by kernel_rfl) HOC.out ?_);have hS1:Bx (World.setRow (wr).drew (b) QL.toArray) q (cvl qs 4)∧Bx (World.setRow (wr).drew (b) QL.toArray) j QL:=⟨hS0.1.off HNE.out.1 QL,hS0.2.off HNX.out.1 QL⟩)
   refine hK.out _ _ ?_ (fun hHeld=>?_)
   ·assumption
   clear hK K;try simp only[Act.put,List.setIfInBounds_toArray]
   refine oS 3 fun K hK=>?_;(refine qaH rfl (qaa (vs:=(cvl qs 4)) (b:=b+1) (n:=8) _ _ rfl rfl rfl (B1d.out.off (g:=b) (by omega) QL) (CL.out 4 (by omega)).1 rfl (by kernel_rfl) (CL.out 4 (by omega)).2 ?_);have hS2:Bx (World.setRow (World.setRow (wr).drew (b) QL.toArray) (b+1) (cvl qs 4).toArray) q (cvl qs 4)∧Bx (World.setRow (World.setRow (wr).drew (b) QL.toArray) (b+1) (cvl qs 4).toArray) j QL:=⟨hS1.1.off HNE.out.2 (cvl qs 4),hS1.2.off HNX.out.2 (cvl qs 4)⟩)
   refine hK.out _ _ ?_ (fun hHeld=>?_)
   ·assumption
   clear hK K;try simp only[Act.put,List.setIfInBounds_toArray]
   refine eS 4 fun K hK=>?_;go_simp;refine hK.out _ _ ?_;clear hK K;try simp only[Act.put,tdy]
   refine dS ?_ _;go_wp2_with fail
   refine qew results72 underlying141 rfl (by kernel_rfl) underlying142 rfl (by kernel_rfl) rfl rfl rfl ((B0d.out.row QL).off (g:=b+1) (by omega) (cvl qs 4)) HLN.out ((B1d.out.off (g:=b) (by omega) QL).row (cvl qs 4)) (CL.out 4 (by omega)).1 ⟨_,rfl,(HRR.out HALL.out _ (RS.out _ rfl)),Kept.rows (K1.out.trans' KD.out) (show w.heap.size≤b from HB.out) (show w.heap.size≤b+1 by have:=HB.out;omega) _ _⟩
  |succ gm=>
   obtain⟨G,hG,hGok,hidx,hnext,hc0,hc1⟩:=CK.out m (by omega);have hl8:=(CL.out m (by omega)).1;have hl9:=CL.out (m+1) (by omega);have COVG:Hid (∀W,Kept w W→Calls prog 31 #[.agg #[.bool G.left.neg,.string G.left.n,.int .i64 G.left.e,.bool G.low.neg,.string G.low.n,.int .i64 G.low.e,.int .i64 G.e]] W fun en w'=>en=.returned (qic (qah G))∧Kept W w'):=fun W h=>COV.out W G h hGok;have HNG:Hid ((qah G).2≠0→∀x,qdy none x→qdy V x):=fun h2=>HNO.out m G hG h2
   have HAG:Hid ((qah G).2=0→∀(i:Nat) (H:SqD),i<m+1→qs[i]? =some H→(qah H).2=0):=fun h2 i H hi hH=>by
    by_cases him:i=m
    ·subst him;rw[hG]at hH;cases hH;exact h2
    ·exact HALL.out i H (by omega) hH
   generalize qah G=C at COVG HNG HAG hnext;obtain⟨⟨x1,x2,x3⟩,ce⟩:=C;obtain⟨⟨g0,g1,g2⟩,⟨g3,g4,g5⟩,g6⟩:=G;simp only at hidx COVG HNG HAG hnext;have hm4:(m:Int)<4:=by omega
   have hm0:(0:Int)≤(m:Int):=by omega
   have HNX8:=qh hnext;have HL8:=qh hl8;have HL9:=qh hl9;have HC0:=qh hc0;have HC1:=qh hc1;clear hnext hl8 hl9 hc0 hc1 hG hGok HALL;go_upto_region 10 with fail
   refine wp_region_list ?_;refine wpList_plain rfl fun K hK=>?_;go_step;refine hK _ _ ?_;clear hK K;refine wpList_plain rfl fun K hK=>?_;go_step;refine hK _ _ ?_;clear hK K;refine wpList_plain rfl fun K hK=>?_;go_step;refine hK _ _ ?_;clear hK K;have HQR:=qh (show q<wr.heap.size∧j<wr.heap.size from⟨B3.out.lt,B4.out.lt⟩);replace B3:=qh (B3.out.kept (Kept.new (Below.refl _ _) (.cells ZL4.toArray 26)));replace B4:=qh (B4.out.kept (Kept.new (Below.refl _ _) (.cells ZL4.toArray 26)));have K10:=qh (Kept.new K9.out (.cells ZL4.toArray 26));have B5:=qh (Bx.new wr ZL4 26 wr.heap.size rfl);have HY:=qh (show w1.heap.size≤wr.heap.size from K9.out.size);obtain⟨y,hy⟩: ∃y,y=wr.heap.size:=⟨_,rfl⟩
   rw[←hy]at B5 HY HQR⊢;clear hy K9 hidx;generalize World.alloc wr _=w11 at *;refine wpList_plain rfl fun K hK=>?_;go_step;refine hK _ _ ?_;clear hK K;refine wpList_plain rfl fun K hK=>qaa (vs:=(LC3 g0 g1 g2 g3 g4 g5 g6)) (b:=y) (n:=7) _ _ rfl rfl rfl B5.out rfl rfl (by kernel_rfl) rfl (hK _ _ ?_);clear hK K;replace B5:=qh (B5.out.row (LC3 g0 g1 g2 g3 g4 g5 g6));replace B4:=qh (B4.out.off (g:=y) (by have:=HQR.out;omega) (LC3 g0 g1 g2 g3 g4 g5 g6));replace B3:=qh (B3.out.off (g:=y) (by have:=HQR.out;omega) (LC3 g0 g1 g2 g3 g4 g5 g6));replace K10:=qh (Kept.row K10.out HY.out (LC3 g0 g1 g2 g3 g4 g5 g6));generalize World.setRow w11 _ _=w12 at *;go_upto_region 11 with fail
   refine wp_region_list ?_;refine wpList_plain rfl fun K hK=>?_;go_step;refine hK _ _ ?_;clear hK K;refine wpList_plain rfl fun K hK=>qag (vs:=(LC3 g0 g1 g2 g3 g4 g5 g6)) (b:=y) (n:=7) _ rfl rfl B5.out rfl underlying26 rfl (by kernel_rfl) (hK _ _ ?_);clear hK K;refine wpList_plain rfl fun K hK=>?_;go_step;(with_reducible refine(COVG.out _ (K1.out.trans' K10.out)).mono ?_)
   rintro e w13 ⟨rfl,hk13⟩;refine hK _ _ ?_;clear hK K;replace B3:=qh (B3.out.kept hk13);replace B4:=qh (B4.out.kept hk13);have K13:=qh (K10.out.trans' hk13);clear hk13 K10 COVG;have e0:=B3.out.c _ HC0.out;have e1:=B3.out.c _ HC1.out;have f0:=B3.out.f (m*2);have f1:=B3.out.f (m*2+1);refine wpList_plain rfl fun K hK=>?_;go_step;refine hK _ _ ?_;clear hK K;refine wpList_plain rfl fun K hK=>?_;go_step;refine hK _ _ ?_;clear hK K;refine wpList_plain rfl fun K hK=>?_;go_step;refine hK _ _ ?_;clear hK K;refine wpList_plain rfl fun K hK=>?_;go_step;refine hK _ _ ?_;clear hK K;refine wpList_plain rfl fun K hK=>?_;go_step;refine hK _ _ ?_;clear hK K
   have B3N:=qh (show Bx ((w13.setCell ⟨q,m*2,none⟩ (.complex .f64 x1 x2)).setCell ⟨q,m*2+1,none⟩ (.float .f64 x3)) q (cvl qs (m+1))from by
    rw[HNX8.out];exact(B3.out.set (m*2) _ (by rw[HL8.out];omega)).set (m*2+1) _ (by rw[List.length_set,HL8.out];omega))
   have B4N:=qh (show Bx ((w13.setCell ⟨q,m*2,none⟩ (.complex .f64 x1 x2)).setCell ⟨q,m*2+1,none⟩ (.float .f64 x3)) j QL from(B4.out.far ⟨q,m*2,none⟩ (by have:=HQ8.out;show j≠q;omega) _).far ⟨q,m*2+1,none⟩ (by have:=HQ8.out;show j≠q;omega) _);have K14:=qh (show Kept w1 ((w13.setCell ⟨q,m*2,none⟩ (.complex .f64 x1 x2)).setCell ⟨q,m*2+1,none⟩ (.float .f64 x3))from(K13.out.set HQ.out (m*2) _).set HQ.out (m*2+1) _);clear e0 e1 f0 f1 B3 B4 K13 HC0 HC1 HNX8 HL8;generalize((w13.setCell ⟨q,m*2,none⟩ (.complex .f64 x1 x2)).setCell ⟨q,m*2+1,none⟩ (.float .f64 x3))=w14 at *;by_cases hce:ce=0
   ·have HA2:=qh (HAG.out hce)
    subst hce;clear HAG HNG;go_wp2_with fail
    go_roundg gm
    case measure=>omega
    case rel=>exact⟨m+1,by omega,by go_num,B3N.out,B4N.out,K14.out,HA2.out⟩
   ·have HN2:=qh (HNG.out hce)
    have hce2:(ce != 0)=true:=by simpa using hce
    clear HAG HNG hce;go_upto_region 13 with fail
    have KX:=qh K14.out;have QB:=qh B3N.out;have XB:=qh B4N.out;have KD:=qh (show Kept w1 (w14).drew from KX.out.trans' (Below.refl _ w14).drew);have B0d:=qh (B0.out.kept KD.out);have B1d:=qh (B1.out.kept KD.out);have HNE:=qh (show q≠b∧q≠b+1 from by have h1:=(B1.out).lt;have h2:=HQ.out;omega);have HNX:=qh (show j≠b∧j≠b+1 from by have h1:=(B1.out).lt;have h2:=HG2.out;omega);have hS0:Bx (w14).drew q (cvl qs (m+1))∧Bx (w14).drew j QL:=⟨QB.out.kept (Below.refl _ w14).drew,XB.out.kept (Below.refl _ w14).drew⟩
    refine qac (fun W=>Bx W q (cvl qs (m+1))∧Bx W j QL) [4] (by kernel_rfl) ?_ (fun hHeld=>?_)
    ·assumption
    refine yS (v:=.agg QL.toArray) 0 66 ?_ ?_
    ·intro w hSw;(try dsimp only at hSw);exact qao (vs:=QL) (n:=28) _ rfl rfl hSw.2 HLN.out underlying141 rfl (by kernel_rfl)
    try simp only[Act.put,tdy]
    refine yS (v:=.agg (cvl qs (m+1)).toArray) 1 67 ?_ ?_
    ·intro w hSw;(try dsimp only at hSw);exact qao (vs:=(cvl qs (m+1))) (n:=8) _ rfl rfl hSw.1 HL9.out.1 underlying142 rfl (by kernel_rfl)
    try simp only[Act.put,tdy]
    refine oS 2 fun K hK=>?_;(refine qaH rfl (qaa (vs:=QL) (b:=b) (n:=28) _ _ rfl rfl rfl B0d.out HLN.out rfl (by kernel_rfl) HOC.out ?_);have hS1:Bx (World.setRow (w14).drew (b) QL.toArray) q (cvl qs (m+1))∧Bx (World.setRow (w14).drew (b) QL.toArray) j QL:=⟨hS0.1.off HNE.out.1 QL,hS0.2.off HNX.out.1 QL⟩)
    refine hK.out _ _ ?_ (fun hHeld=>?_)
    ·assumption
    clear hK K;try simp only[Act.put,List.setIfInBounds_toArray]
    refine oS 3 fun K hK=>?_;(refine qaH rfl (qaa (vs:=(cvl qs (m+1))) (b:=b+1) (n:=8) _ _ rfl rfl rfl (B1d.out.off (g:=b) (by omega) QL) HL9.out.1 rfl (by kernel_rfl) HL9.out.2 ?_);have hS2:Bx (World.setRow (World.setRow (w14).drew (b) QL.toArray) (b+1) (cvl qs (m+1)).toArray) q (cvl qs (m+1))∧Bx (World.setRow (World.setRow (w14).drew (b) QL.toArray) (b+1) (cvl qs (m+1)).toArray) j QL:=⟨hS1.1.off HNE.out.2 (cvl qs (m+1)),hS1.2.off HNX.out.2 (cvl qs (m+1))⟩)
    refine hK.out _ _ ?_ (fun hHeld=>?_)
    ·assumption
    clear hK K;try simp only[Act.put,List.setIfInBounds_toArray]
    refine eS 4 fun K hK=>?_;go_simp;refine hK.out _ _ ?_;clear hK K;try simp only[Act.put,tdy]
    refine dS ?_ _;go_wp2_with fail
    refine qew results72 underlying141 rfl (by kernel_rfl) underlying142 rfl (by kernel_rfl) rfl rfl rfl ((B0d.out.row QL).off (g:=b+1) (by omega) (cvl qs (m+1))) HLN.out ((B1d.out.off (g:=b) (by omega) QL).row (cvl qs (m+1))) HL9.out.1 ⟨_,rfl,(HN2.out _ ⟨QL,cvl qs (m+1),HLN.out,HL9.out.1,HOC.out,HL9.out.2,rfl⟩),Kept.rows (K1.out.trans' KD.out) (show w.heap.size≤b from HB.out) (show w.heap.size≤b+1 by have:=HB.out;omega) _ _⟩
theorem qdU {w:World} {base p:Nat} {v:Value} {u:RuD} {S:StD} {k:Nat} {n:NdD} (hM:TrM w base p v u S) (hS:GoodS S) (hk:S.L[k]? =some n) (hT:T32 w):
  Calls prog 72 #[.pointer (some ⟨p,0,none⟩),.int .i64 (k:Int)] w fun en w'=> ∃x,en=.returned x∧qdy (qav S k) x∧Kept w w':=by
 by_cases h0:n.kids=none∧n.told=0∧n.depth<40∧S.n+3≤65536
 ·cases hP:qaQ n.sq with
  |none=>
   have e:qav S k=none:=by
    unfold qav;rw[hk];simp only;rw[if_pos h0];unfold qbN;rw[hP];rfl
   rw[e];exact qi0 hM hS hk hT h0 hP
  |some l=>
   have hl:=(qcL (hS.nd k n hk).sq hP).1;match l,hl,hP with
   |[q0,q1,q2,q3],_,hP=>exact qiI hM hS hk hT h0 hP
 ·have e:qav S k=none:=by
   unfold qav;rw[hk];simp only;rw[if_neg h0]
  rw[e];exact qla hM hS hk h0
end
theorem qfi (f:Nat→Bool): ∀(k i j:Nat),i≤j→qaR f k i j≤j
 |0,i,j,h=>h
 |k+1,i,j,h=>by
  unfold qaR;split
  ·split
   ·have:=qfi f k i ((i+j) / 2) (by omega);omega
   ·exact qfi f k _ j (by omega)
  ·exact h
theorem qh1 {s:SqD} (h:sqB s=true):(qah s).1.re<18446744073709551616∧(qah s).1.im<18446744073709551616∧(qah s).1.r<18446744073709551616:=by
 have hm:=qan.1 (qgH h);have h1:=qeg hm.1;have h2:=qeg hm.2;unfold qah;split
 ·exact⟨by decide,by decide,by decide⟩
 ·split
  ·split
   ·split
    ·exact⟨by decide,by decide,by decide⟩
    ·split
     ·rename_i l _ _ _ n _ _
      have:=qfi (qa7 n) 64 0 qbF (Nat.zero_le _);refine⟨h1,h2,?_⟩;show qaR (qa7 n) 64 0 qbF<_;unfold qbF at this⊢;omega
     ·exact⟨by decide,by decide,by decide⟩
   ·exact⟨by decide,by decide,by decide⟩
  ·exact⟨by decide,by decide,by decide⟩
def qbQ (u:RuD) (s:SqD):Nat:=qhg u (qah s).1.re (qah s).1.im (qah s).1.r
theorem qlC (u:RuD) (s:SqD):qbQ u s≤2:=qpe ..
def qb9 (u:RuD) (n:NdD) (q:SqD×SqD×SqD×SqD) (m:Nat):List NdD:=([q.1,q.2.1,q.2.2.1,q.2.2.2].take m).map fun s=>qgB n s (qbQ u s)
theorem qgg (u:RuD) (n:NdD) (q:SqD×SqD×SqD×SqD) {m:Nat} (hm:m≤4):(qb9 u n q m).length=m:=by
 unfold qb9;rw[List.length_map,List.length_take];simp;omega
theorem qkH (u:RuD) (n:NdD) (q:SqD×SqD×SqD×SqD) {m:Nat} {s:SqD} (hs:[q.1,q.2.1,q.2.2.1,q.2.2.2][m]? =some s):qb9 u n q (m+1)=qb9 u n q m++[qgB n s (qbQ u s)]:=by
 unfold qb9;rw[List.take_add_one,hs,Option.toList_some,List.map_append];rfl
theorem qkT (u:RuD) (L:List NdD) (k:Nat) (n:NdD) (q:SqD×SqD×SqD×SqD) (hk:k<L.length):(L++qb9 u n q 4).set k (n.part L.length)=qaI L k n q (qbQ u):=by
 unfold qaI;rw[List.set_append_left _ _ hk];rfl
def plV (N m:Nat):List Value:=(List.range 4).map fun i=>.int .i64 (if i<m then((N+i:Nat):Int)else 0)
theorem qnw (N:Nat) {m:Nat} (hm:m<4):plV N (m+1)=(plV N m).set m (.int .i64 ((N+m:Nat):Int)):=by
 rcases(show m=0∨m=1∨m=2∨m=3 by omega)with rfl|rfl|rfl|rfl<;>rfl
theorem qdz {t:SqD→Nat} {S:StD} {k:Nat} (h:qav S k=none):qbV t S k=(S,false):=by unfold qbV;rw[h]
theorem qcN {t:SqD→Nat} {S:StD} {k:Nat} {n:NdD} {q:SqD×SqD×SqD×SqD} (h:qav S k=some (n,q)):qbV t S k=(⟨qaI S.L k n q t,S.n+3⟩,true):=by unfold qbV;rw[h]
section
attribute [local go_sem] qaf qad
theorem Far.set {s:Nat→Prop} {a b:World} (h:Far s a b) (q:Addr) (x:Value) (hq:q.block<a.heap.size→s q.block):Far s a (b.setCell q x):=
 ⟨h.os,h.tape,h.output,by simpa [World.setCell] using h.size,fun i hi hs=>(Below.heap_setCell b q x i (fun e=>by subst e;exact hs (hq hi))).trans (h.block i hi hs)⟩
theorem Far.drew {s:Nat→Prop} {a b:World} (h:Far s a b):Far s a b.drew:=⟨h.os,h.tape,h.output,h.size,h.block⟩
def qeE (w:World) (base p:Nat) (v:Value) (u:RuD) (S:StD) (r:StD×Bool) (en:Ending) (w':World):Prop:=
 ∃v',en=.returned (.bool r.2)∧TrM w' base p v' u r.1∧Far (TrB p v) w w'∧(v'.ownBlock=v.ownBlock∨∀i,v'.ownBlock=some i→w.heap.size≤i)
set_option maxRecDepth 100000 in
set_option maxHeartbeats 6400000 in
theorem qoZ {w:World} {base p:Nat} {v:Value} {u:RuD} {S:StD} {k:Nat} {n:NdD} (hM:TrM w base p v u S) (hS:GoodS S) (hk:S.L[k]? =some n) (hT:T32 w) (hu:u.ok) (h0:qav S k=none):
  Calls prog 34 #[.pointer (some ⟨p,0,none⟩),.int .i64 (k:Int)] w (qeE w base p v u S (qbV (qbQ u) S k)):=by
 have SQ:=qh (qdU hM hS hk hT);rw[h0]at SQ;rw[qdz h0];have HM:=qh hM;clear hM hS hk hT hu h0;go_enter func34,ntmps34
 go_upto_region 1 with fail
 refine wp_region_list ?_;refine wpList_plain rfl fun K hK=>?_;go_step;refine hK _ _ ?_;clear hK K;refine wpList_plain rfl fun K hK=>?_;go_step;refine hK _ _ ?_;clear hK K;refine wpList_plain rfl fun K hK=>?_;go_step;(with_reducible refine SQ.out.mono ?_)
 rintro e w2 ⟨x,rfl,hx,hk2⟩;have HK2:=qh hk2;clear hk2 SQ;obtain⟨xs,ys,l1,l2,o1,o2,rfl⟩:=hx;have L1:=qh l1;have L2:=qh l2;have O1:=qh o1;have O2:=qh o2;clear l1 l2 o1 o2;refine hK _ _ ?_;clear hK K;refine wpList_plain rfl fun K hK=>?_;go_step;refine hK _ _ ?_;clear hK K;refine wpList_plain rfl fun K hK=>?_;go_step;refine hK _ _ ?_;clear hK K;refine wpList_plain rfl fun K hK=>?_;go_step;refine hK _ _ ?_;clear hK K;refine wpList_plain rfl fun K hK=>?_;go_step;refine hK _ _ ?_;clear hK K;refine wpList_plain rfl fun K hK=>?_;go_step;refine hK _ _ ?_;clear hK K;have K3:=qh (Kept.new HK2.out (.cells ZL2.toArray 141));have B0:=qh (Bx.new w2 ZL2 141 w2.heap.size rfl);have HG0:=qh (show w.heap.size≤w2.heap.size from HK2.out.size);obtain⟨b,hb⟩: ∃b,b=w2.heap.size:=⟨_,rfl⟩
 rw[←hb]at B0 HG0⊢;clear hb HK2;generalize World.alloc w2 _=w3 at *;refine wpList_plain rfl fun K hK=>?_;go_step;refine hK _ _ ?_;clear hK K;have HBQ0:=qh B0.out.lt;replace B0:=qh (B0.out.kept (Kept.new (Below.refl _ w3) (.cells ZL3.toArray 142)));have K4:=qh (Kept.new K3.out (.cells ZL3.toArray 142));have B1:=qh (Bx.new w3 ZL3 142 w3.heap.size rfl);have HG1:=qh (show w.heap.size≤w3.heap.size from K3.out.size);obtain⟨q,hq⟩: ∃q,q=w3.heap.size:=⟨_,rfl⟩
 have HBQ:=qh (show b≠q from by have:=HBQ0.out;omega);rw[←hq]at B1 HG1⊢;clear hq K3 HBQ0;generalize World.alloc w3 _=w4 at *;refine wpList_plain rfl fun K hK=>qaa (vs:=xs) (b:=b) (n:=28) _ _ rfl rfl rfl B0.out L1.out rfl (by kernel_rfl) O1.out (hK _ _ ?_);clear hK K;replace B0:=qh (B0.out.row xs);replace B1:=qh (B1.out.off (g:=b) (fun e=>HBQ.out e.symm) xs);replace K4:=qh (Kept.row K4.out HG0.out xs);generalize World.setRow w4 _ _=w5 at *;refine wpList_plain rfl fun K hK=>qaa (vs:=ys) (b:=q) (n:=8) _ _ rfl rfl rfl B1.out L2.out rfl (by kernel_rfl) O2.out (hK _ _ ?_);clear hK K;replace B1:=qh (B1.out.row ys);replace B0:=qh (B0.out.off (g:=q) HBQ.out ys);replace K4:=qh (Kept.row K4.out HG1.out ys);generalize World.setRow w5 _ _=w6 at *;go_wp2_with fail
 exact bodyPost_ret (v:=.bool false) (by simp[results,results34,go_sem]) rfl ⟨v,rfl,HM.out.kept K4.out,Far.qcc K4.out,.inl rfl⟩
end
section
theorem qaK {P:Program} {o:Oper} {a:Act} {w:World} {n:Nat} {next:Act→World→Prop} {Q:Exit→Act→World→Prop} (hd: ∀c,o.op≠ .defer c) (h:Oper.wp P o a w next Q):o.wpIn Fence.wide n P a w next Q:=by
 unfold Oper.wp at h;unfold Oper.wpIn;refine⟨fun _ _=>trivial,?_⟩;rw[Oper.semAt_eq _ _ _ hd];generalize(execOp a.eval o).run P w=r at *;cases r with
 |ok x w'=>
  cases x<;>simp only[Oper.upon]at h<;>simp only[Oper.uponIn]
  case value=>exact h
  case skip=>exact h
  case defer=>exact h
  case enter f args=>exact⟨fun h0=>by simp[Fence.wide]at h0,callsIn_wide.2 h⟩
  case row r args=>exact⟨fun h0=>by simp[Fence.wide]at h0,fun c cs _=>let ⟨v,w2,r9,s9⟩:=h c cs;⟨v,w2,r9,stepsIn_wide.2 s9⟩⟩
 |halt x w'=>cases x<;>simp only[Oper.upon]at h<;>simp only[Oper.uponIn];exact h
structure Same (T:Nat→Prop) (w W:World):Prop where
 size:w.heap.size≤W.heap.size
 block: ∀k,T k→W.heap[k]? =w.heap[k]?
section
variable {T : Nat → Prop} {w W X : World}
theorem Same.kept (h:Same T w W) (hk:Kept W X) (hT: ∀k,T k→k<w.heap.size):Same T w X:=
 ⟨Nat.le_trans h.size hk.size,fun k hh=>(hk.block k (by have:=hT k hh;have:=h.size;omega)).trans (h.block k hh)⟩
theorem Same.grown {row:Option Nat} (h:Same T w W) (hg:W.grownBy X row) (hT: ∀k,T k→k<w.heap.size) (hr: ∀k,T k→row≠some k):Same T w X:=
 ⟨Nat.le_trans h.size hg.size,fun k hh=>(hg.block k (by have:=hT k hh;have:=h.size;omega) (fun e=>hr k hh e.symm)).trans (h.block k hh)⟩
theorem Same.qpB {U:World→Nat→Prop} (h:Same T w W) (hk:qef U W X) (hc: ∀k,T k→∃o,w.heap[k]? =some o∧o.isCells=true) (hU: ∀k,T k→¬U W k):Same T w X:=
 ⟨Nat.le_trans h.size hk.size,fun k hh=>by
  obtain⟨o,ho,hco⟩:=hc k hh;rw[hk.same k o ((h.block k hh).trans ho) hco (hU k hh),ho]⟩
theorem Bx.same {b:Nat} {vs:List Value} (h:Bx w b vs) (hs:Same T w W) (ht:T b):Bx W b vs:=by
 obtain⟨t,h⟩:=h;exact⟨t,(hs.block b ht).trans h⟩
theorem Own.same {base size n:Nat} {v:Value} {xs:List Value} (h:Own w base size v n xs) (hs:Same T w W) (ht: ∀k,v.ownBlock=some k→T k):Own W base size v n xs:=
 h.keep hs.size fun g hg o=>⟨World.cell?_of_block (a:=⟨g,o,none⟩) (hs.block g (ht g hg)),World.frozen?_of_block (a:=⟨g,o,none⟩) (hs.block g (ht g hg))⟩
theorem TrM.same {base p:Nat} {v:Value} {u:RuD} {S:StD} (h:TrM w base p v u S) (hs:Same T w W) (ht: ∀k,TrB p v k→T k):TrM W base p v u S:=
 ⟨h.box.same hs (ht p (.inl rfl)),h.own.same hs (fun k hk=>ht k (.inr hk)),h.ge,h.off⟩
theorem cells_of_cell {a:Addr} {v:Value} (h:w.cell? a=some v): ∃o,w.heap[a.block]? =some o∧o.isCells=true:=by
 unfold World.cell? at h;cases ho:w.heap[a.block]? with
 |none=>simp[ho]at h
 |some o=>exact⟨o,rfl,by cases o<;>simp_all [Obj.isCells]⟩
theorem Own.cellsB {base size n c g off:Nat} {xs:List Value} (h:Own w base size (.slice (some ⟨g,off,none⟩) n c) n xs) (hc:0<c*size): ∃o,w.heap[g]? =some o∧o.isCells=true:=by
 rcases h.2 with ⟨h,_⟩|⟨g',off',c',e,_,_,_,_,_,h⟩
 ·cases h
 ·injection e with e1 _ e2
  injection e1 with e1;injection e1 with e1 e3;subst e1;subst e2;have h0:=(h 0 hc).1;cases h1:w.cell? ⟨g,off'+0,none⟩with
  |none=>rw[h1]at h0;cases h0
  |some v=>exact cells_of_cell h1
theorem Bx.qbw {b:Nat} {vs:List Value} {row:Option Nat} (h:Bx w b vs) (hg:w.grownBy W row) (hne:row≠some b):Bx W b vs:=by
 have hl:=h.lt;obtain⟨t,h⟩:=h;exact⟨t,(hg.block b hl (fun e=>hne e.symm)).trans h⟩
theorem TrM.cellsB {base p:Nat} {v:Value} {u:RuD} {S:StD} (h:TrM w base p v u S) (hp:0<S.L.length): ∀k,TrB p v k→k<w.heap.size∧∃o,w.heap[k]? =some o∧o.isCells=true:=by
 intro k hk;rcases hk with rfl|hk
 ·exact⟨h.box.lt,cells_of_cell (h.box.c 0 rfl)⟩
 ·obtain⟨g,off,c,rfl,h1,h2,h3,h4,h5⟩:=h.form hp
  cases hk;refine⟨h2,?_⟩;obtain⟨n,hn⟩: ∃n,S.L[0]? =some n:=⟨_,List.getElem?_eq_getElem hp⟩
  exact cells_of_cell (h4 0 n 0 _ hn rfl)
end
structure At (B:Nat) (U:World→Nat→Prop) (J:World→Prop) (W0 W:World):Prop where
 inv:J W
 used: ∀k,U W k→U W0 k
 size:W0.heap.size≤W.heap.size
 lt0: ∀k,U W0 k→k<W0.heap.size
section
variable {B B' : Nat} {U : World → Nat → Prop} {β : Type} {J : β → World → Prop} {s : β} {W0 W X : World}
theorem At.grown {row:Option Nat} (h:At B U (J s) W0 W) (hJ:qdh B U J) (hU:qfO B' U) (hlt: ∀s W,J s W→∀k,U W k→k<W.heap.size) (hg:W.grownBy X row) (hr: ∀r,row=some r→B≤r∧¬U W0 r):At B U (J s) W0 X:=
 ⟨hJ s W X row h.inv hg (fun r e=>⟨(hr r e).1,fun hu=>(hr r e).2 (h.used r hu)⟩),
  fun k hk=>h.used k (hU.step W X row (hlt s W h.inv) hg (fun r e hu=>(hr r e).2 (h.used r hu)) k hk),Nat.le_trans h.size hg.size,h.lt0⟩
theorem qgD (h:Kept W X):W.grownBy X none:=⟨h.os,h.tape,h.output,h.size,fun k hk _=>h.block k hk⟩
theorem At.kept (h:At B U (J s) W0 W) (hJ:qdh B U J) (hU:qfO B' U) (hlt: ∀s W,J s W→∀k,U W k→k<W.heap.size) (hk:Kept W X):At B U (J s) W0 X:=
 h.grown hJ hU hlt (qgD hk) (fun r e=>by cases e)
end
end
section
section
variable {P : Program}
theorem qgh (w:World) (base:Nat) (t ty e:TypeId) (i:TypeInfo) (z:Value) (size bytes:Nat) (ht:P.underlying t=some (.slice e)) (hi:P.info? e=some i) (hz:i.zero=some z)
  (hsize:i.size=size) (hby:i.bytes=bytes) (hzs:z.cells.size=size) (hsz:0<size)
  (v:Value) (n:Nat) (xs:List Value) (hown:Own w base size v n xs)
  (A:Option Addr) (m c:Nat) (news:List Value) (hl:news.length=m*size) (hr:Row w A news) (h1: ∀u∈news,u.oneCell'=true)
  (h63:n+m≤maxLen) (hbytes:(n+m)*bytes≤140737488355328) (hbase:base≤w.heap.size):
  ∃v' w',(Builtin.append_ #[t,t] ty #[v,.slice A m c]).run P w=.ok v' w'∧Own w' base size v' (n+m) (xs++news)∧w.grownBy w' v.ownBlock∧
   (v'.ownBlock=v.ownBlock∨∀k,v'.ownBlock=some k→w.heap.size≤k)∧Own w' base size v n xs:=by
 rcases A with _|ad
 ·have hn:news=[]:=by
   rcases hr with h|⟨b,off,h,_⟩
   ·exact h
   ·cases h
  subst hn
  have hm:m=0:=by
   have h0:m*size=0:=by simpa using hl.symm
   rcases Nat.mul_eq_zero.1 h0 with h|h
   ·exact h
   ·omega
  subst hm;refine⟨v,w,?_,by simpa using hown,World.grownBy.refl w _,.inl rfl,hown⟩;rcases hown.2 with ⟨rfl,rfl⟩|⟨g,off,cap,rfl,_,_,hnc,_⟩
  ·simp [Builtin.append_,run_underlying ht,sizeOf,typeInfo,hi,Builtin.lenOf,Builtin.firstCells]
  ·simp [Builtin.append_,run_underlying ht,sizeOf,typeInfo,hi,Builtin.lenOf,Builtin.firstCells,hnc,storeCells]
 ·have hcells: ∀j u,news[j]? =some u→w.cell? (ad.add j)=some u:=by
   intro j u hu;rcases hr with h|⟨b,off,h,hc⟩
   ·subst h;simp at hu
   ·injection h with h
    subst h;have:(⟨b,off,none⟩:Addr).add j=⟨b,off+j,none⟩:=by unfold Addr.add;split<;>simp_all
    rw[this];exact hc j u hu
  rcases hown.2 with ⟨rfl,rfl⟩|⟨g,off,cap,rfl,hbg,hg,hnc,hcm,hx,hc⟩
  ·have hx:xs=[]:=List.eq_nil_of_length_eq_zero (by simpa using hown.1)
   subst hx;obtain⟨v',w',hrun,h2,h3,_,h5⟩:=run_append_own_at (P:=P) w base t ty e i z size bytes ht hi hz hsize hby hzs hsz (.slice none 0 0) 0 [] (World.ownsRow_nil w base e size) ad m c news hl hcells h1 h63 hbytes hbase;exact⟨v',w',hrun,Own.qiG h2,h3,h5.imp id (fun e k hk=>by rw[e]at hk;injection hk with hk;omega),Own.nil _ _ _⟩
  ·by_cases hroom:n+m≤cap
   ·have hmul:n*size+m*size≤cap*size:=by rw[←Nat.add_mul];exact Nat.mul_le_mul_right _ hroom
    have hrun:=run_append_room_cells (P:=P) w t ty e i ht hi g off n cap ad m c news (by rw[hsize];exact hl) hcells h1 hroom
     (fun j hj=>by rw[hsize,Nat.add_assoc];exact(hc _ (by omega)).1) (fun j hj=>by rw[hsize,Nat.add_assoc];exact(hc _ (by omega)).2)
    rw[hsize]at hrun;have hgr:=qcv w g (off+n*size) news;have hsome: ∀j,j<news.length→(w.cell? ⟨g,off+n*size+j,none⟩).isSome=true:=fun j hj=>by rw[Nat.add_assoc];exact(hc _ (by omega)).1
    refine⟨_,_,hrun,⟨by rw[List.length_append,hown.1,hl,Nat.add_mul],.inr ⟨g,off,cap,rfl,hbg,Nat.lt_of_lt_of_le hg hgr.size,hroom,hcm,fun j u hu=>?_,fun j hj=>?_⟩⟩,hgr,.inl rfl,hown.1,.inr ⟨g,off,cap,rfl,hbg,Nat.lt_of_lt_of_le hg hgr.size,hnc,hcm,fun j u hu=>?_,fun j hj=>?_⟩⟩
    ·by_cases hj:j<n*size
     ·rw [World.cell?_setCells_out g news _ w ⟨g,off+j,none⟩ (fun _ _=>.inl (by show off+j<off+n*size;omega))]
      rw[List.getElem?_append_left (by rw[hown.1];exact hj)]at hu;exact hx j u hu
     ·rw [List.getElem?_append_right (by rw[hown.1];omega),hown.1]at hu
      obtain⟨q,rfl⟩: ∃q,j=n*size+q:=⟨j-n*size,by omega⟩
      have hq:q<news.length:=by
       rcases Nat.lt_or_ge q news.length with h|h
       ·exact h
       ·rw [List.getElem?_eq_none (by omega)]at hu;cases hu
      rw[←Nat.add_assoc,World.cell?_setCells_in g news (off+n*size) w hsome q hq,←hu,Nat.add_sub_cancel_left,List.getElem?_eq_getElem hq]
    ·rw [World.frozen?_setCells]
     refine⟨?_,(hc j hj).2⟩;by_cases hin:n*size≤j∧j<n*size+news.length
     ·obtain⟨q,rfl⟩: ∃q,j=n*size+q:=⟨j-n*size,by omega⟩
      rw[←Nat.add_assoc,World.cell?_setCells_in g news (off+n*size) w hsome q (by omega)];rfl
     ·rw [World.cell?_setCells_out g news _ w ⟨g,off+j,none⟩ (fun _ _=>by show off+j<off+n*size∨off+n*size+news.length≤off+j;omega)]
      exact(hc j hj).1
    ·have hj:j<n*size:=by rw[←hown.1];exact(List.getElem?_eq_some_iff.1 hu).1
     rw[World.cell?_setCells_out g news _ w ⟨g,off+j,none⟩ (fun _ _=>.inl (by show off+j<off+n*size;omega))];exact hx j u hu
    ·rw [World.frozen?_setCells]
     refine⟨?_,(hc j hj).2⟩;by_cases hin:n*size≤j∧j<n*size+news.length
     ·obtain⟨q,rfl⟩: ∃q,j=n*size+q:=⟨j-n*size,by omega⟩
      rw[←Nat.add_assoc,World.cell?_setCells_in g news (off+n*size) w hsome q (by omega)];rfl
     ·rw [World.cell?_setCells_out g news _ w ⟨g,off+j,none⟩ (fun _ _=>by show off+j<off+n*size∨off+n*size+news.length≤off+j;omega)]
      exact(hc j hj).1
   ·obtain⟨v',w',hrun,h2,h3⟩:=run_append_arg_grows (P:=P) w t ty e i z size bytes ht hi hz hsize hby hzs hsz ⟨g,off,none⟩ n cap xs hown.1 (fun j u hu=>by rw[Addr.add_lit];exact hx j u hu) ad m c news hl hcells (by omega) h63 hbytes
    have hown2:=(Own.qiG h2)
    refine⟨v',w',hrun,hown2.less hbase,⟨h3.os,h3.tape,h3.output,h3.size,fun k hk _=>h3.block k hk (by simp)⟩,?_⟩;refine⟨.inr fun k hk=>(hown2.lt k hk).1,hown.1,.inr ⟨g,off,cap,rfl,hbg,Nat.lt_of_lt_of_le hg h3.size,hnc,hcm,fun j u hu=>?_,fun j hj=>?_⟩⟩
    ·rw [World.cell?_of_block (a:=⟨g,off+j,none⟩) (h3.block g hg (by simp))];exact hx j u hu
    ·rw [World.cell?_of_block (a:=⟨g,off+j,none⟩) (h3.block g hg (by simp)),World.frozen?_of_block (a:=⟨g,off+j,none⟩) (h3.block g hg (by simp))];exact hc j hj
end
theorem qdM {P:Program} (w:World) {ops:Array Oper} {o:Oper} {a:Act} {K:Act→World→Prop} {Q:Exit→Act→World→Prop} {E:Prop} (hgd:o.guard=none) (s x:Operand) (t:TypeId)
  (ho:o.op=.call {callee:=.builtin .append,args:=#[s,x],argTypes:=#[t,t]})
  (base:Nat) (e:TypeId) (i:TypeInfo) (z:Value) (size bytes:Nat) (ht:P.underlying t=some (.slice e)) (hi:P.info? e=some i) (hz:i.zero=some z)
  (hsize:i.size=size) (hby:i.bytes=bytes) (hzs:z.cells.size=size) (hsz:0<size)
  (v:Value) (n:Nat) (xs:List Value) (hs:a.eval s=v) (hown:Own w base size v n xs)
  (A:Option Addr) (m c:Nat) (news:List Value) (hx:a.eval x=.slice A m c) (hl:news.length=m*size) (hr:Row w A news) (h1: ∀u∈news,u.oneCell'=true)
  (h63:n+m≤maxLen) (hbytes:(n+m)*bytes≤140737488355328) (hbase:base≤w.heap.size)
  (h: ∀v' w',Own w' base size v' (n+m) (xs++news)→w.grownBy w' v.ownBlock→(v'.ownBlock=v.ownBlock∨∀k,v'.ownBlock=some k→w.heap.size≤k)→Own w' base size v n xs→K (a.put o.dst v') w'):
  if Region.wanted o (yielded ops a.tmps)=true then Oper.wp P o a w K Q else E:=by
 rw[if_pos (by simp[Region.wanted,hgd])];obtain⟨v',w',hrun,h2,h3,h4,h5⟩:=qgh (P:=P) w base t o.type e i z size bytes ht hi hz hsize hby hzs hsz v n xs hown A m c news hl hr h1 h63 hbytes hbase;unfold Oper.wp execOp;simp only[ho,resolve,invoke,builtin,Sem.run_bind,Sem.run_pure,Result.andThen_ok,List.map_toArray,List.map_cons,List.map_nil,hs,hx,hrun];exact h v' w' h2 h3 h4 h5
end
section
attribute [local go_sem] qaf qad
theorem Own.at_ {W:World} {base size n c g off:Nat} {xs:List Value} (h:Own W base size (.slice (some ⟨g,off,none⟩) n c) n xs) {j:Nat} {u:Value} (hj:xs[j]? =some u):W.cell? ⟨g,off+j,none⟩=some u:=by
 rcases h.row with h|⟨b,o,e,hc⟩
 ·subst h;cases hj
 ·injection e with e;injection e with e1 e2;subst e1;subst e2;exact hc j u hj
theorem qlE :(prog.info? 91).map (fun i=>(i.zero,i.size,i.bytes))=some (some (.agg #[.bool false,.string ⟨#[]⟩,.int .i64 0,.bool false,.string ⟨#[]⟩,.int .i64 0,.int .i64 0,.int .u8 0,.int .i64 0,.int .i64 0,.int .i64 0,.int .i64 0,.int .i64 0]),13,120):=by kernel_rfl
set_option maxRecDepth 100000 in
set_option maxHeartbeats 6400000 in
theorem qot {w:World} {base p:Nat} {v:Value} {u:RuD} {S:StD} {k:Nat} {n:NdD} (hM:TrM w base p v u S) (hS:GoodS S) (hk:S.L[k]? =some n) (hT:T32 w) (hu:u.ok) {q:SqD×SqD×SqD×SqD} (h0:qav S k=some (n,q)):
  Calls prog 34 #[.pointer (some ⟨p,0,none⟩),.int .i64 (k:Int)] w (qeE w base p v u S (qbV (qbQ u) S k)):=by
 have SQ:=qh (qdU hM hS hk hT);rw[h0]at SQ;rw[qcN h0];have hlt:=(List.getElem?_eq_some_iff.1 hk).1;obtain⟨QL,hQL⟩: ∃QL,QL=sq4 q:=⟨_,rfl⟩
 obtain⟨YL,hYL⟩: ∃YL,YL=cv4 q:=⟨_,rfl⟩
 have L1:=qh (show QL.length=28 by rw[hQL];rfl);have L2:=qh (show YL.length=8 by rw[hYL];rfl);have O1:=qh (show QL.all Value.oneCell'=true by rw[hQL];rfl);have O2:=qh (show YL.all Value.oneCell'=true by rw[hYL];rfl);have PX: ∀x,qdy (some (n,q)) x→x=.tuple #[.agg QL.toArray,.agg YL.toArray,.bool true]:=fun x hx=>by rw[hQL,hYL];exact hx
 obtain⟨RR,hRR⟩: ∃RR:Value→Prop,RR=qdy (some (n,q)):=⟨_,rfl⟩
 rw[←hRR]at PX SQ;obtain⟨hw1,hw2,hw3,hw4,hw5,hw6⟩:=qbf h0
 have CK:Hid (∀m:Nat,m<4→∃G:SqD,[q.1,q.2.1,q.2.2.1,q.2.2.2][m]? =some G∧sqB G=true∧(∀W,(Instr.index 141 (.agg QL.toArray) (.int .i64 (m:Int))).run prog W=.ok (.agg #[.bool G.left.neg,.string G.left.n,.int .i64 G.left.e,.bool G.low.neg,.string G.low.n,.int .i64 G.low.e,.int .i64 G.e]) W)∧YL[m*2]? =some (.complex .f64 (qah G).1.re (qah G).1.im)∧YL[m*2+1]? =some (.float .f64 (qah G).1.r)):=by
  have hok:sqB q.1=true∧sqB q.2.1=true∧sqB q.2.2.1=true∧sqB q.2.2.2=true:=by
   unfold qbN at hw6;cases hp:qaQ n.sq with
   |none=>rw[hp]at hw6;cases hw6
   |some l=>
    obtain⟨hl,hl2⟩:=qcL (hS.nd k n hk).sq hp;match l,hl with
    |[a,b,c,e],_=>
     rw[hp]at hw6;simp only at hw6;split at hw6
     ·cases hw6;exact⟨hl2 _ (by simp),hl2 _ (by simp),hl2 _ (by simp),hl2 _ (by simp)⟩
     ·cases hw6
  intro m hm;rw[hQL,hYL];obtain⟨q0,q1,q2,q3⟩:=q;rcases(show m=0∨m=1∨m=2∨m=3 by omega)with rfl|rfl|rfl|rfl
  ·exact⟨q0,rfl,hok.1,fun W=>by kernel_rfl,rfl,rfl⟩
  ·exact⟨q1,rfl,hok.2.1,fun W=>by kernel_rfl,rfl,rfl⟩
  ·exact⟨q2,rfl,hok.2.2.1,fun W=>by kernel_rfl,rfl,rfl⟩
  ·exact⟨q3,rfl,hok.2.2.2,fun W=>by kernel_rfl,rfl,rfl⟩
 have HM:=qh hM;have HS:=qh hS;have HK:=qh hk;have HU:=qh hu;have HPX:=qh PX;have HLT:=qh hlt;clear hM hS hk hT hu h0 hQL hYL hRR PX hlt hw1 hw2 hw3 hw4 hw5 hw6;go_enter func34,ntmps34
 go_upto_region 1 with fail
 refine wp_region_list ?_;refine wpList_plain rfl fun K hK=>?_;go_step;refine hK _ _ ?_;clear hK K;refine wpList_plain rfl fun K hK=>?_;go_step;refine hK _ _ ?_;clear hK K;refine wpList_plain rfl fun K hK=>?_;go_step;(with_reducible refine SQ.out.mono ?_)
 rintro e w2 ⟨x,rfl,hx,hk2⟩;have HK2:=qh hk2;clear hk2 SQ;obtain rfl:=HPX.out _ hx;clear hx HPX;refine hK _ _ ?_;clear hK K;refine wpList_plain rfl fun K hK=>?_;go_step;refine hK _ _ ?_;clear hK K;refine wpList_plain rfl fun K hK=>?_;go_step;refine hK _ _ ?_;clear hK K;refine wpList_plain rfl fun K hK=>?_;go_step;refine hK _ _ ?_;clear hK K;refine wpList_plain rfl fun K hK=>?_;go_step;refine hK _ _ ?_;clear hK K;refine wpList_plain rfl fun K hK=>?_;go_step;refine hK _ _ ?_;clear hK K;have K3:=qh (Kept.new HK2.out (.cells ZL2.toArray 141));have B0:=qh (Bx.new w2 ZL2 141 w2.heap.size rfl);have HG0:=qh (show w.heap.size≤w2.heap.size from HK2.out.size);obtain⟨b,hb⟩: ∃b,b=w2.heap.size:=⟨_,rfl⟩
 rw[←hb]at B0 HG0⊢;clear hb HK2;generalize World.alloc w2 _=w3 at *;refine wpList_plain rfl fun K hK=>?_;go_step;refine hK _ _ ?_;clear hK K;have HBQ0:=qh B0.out.lt;replace B0:=qh (B0.out.kept (Kept.new (Below.refl _ w3) (.cells ZL3.toArray 142)));have K4:=qh (Kept.new K3.out (.cells ZL3.toArray 142));have B1:=qh (Bx.new w3 ZL3 142 w3.heap.size rfl);have HG1:=qh (show w.heap.size≤w3.heap.size from K3.out.size);obtain⟨c,hq⟩: ∃c,c=w3.heap.size:=⟨_,rfl⟩
 have HBQ:=qh (show b≠c from by have:=HBQ0.out;omega);rw[←hq]at B1 HG1⊢;clear hq K3 HBQ0;generalize World.alloc w3 _=w4 at *;refine wpList_plain rfl fun K hK=>qaa (vs:=QL) (b:=b) (n:=28) _ _ rfl rfl rfl B0.out L1.out rfl (by kernel_rfl) O1.out (hK _ _ ?_);clear hK K;replace B0:=qh (B0.out.row QL);replace B1:=qh (B1.out.off (g:=b) (fun e=>HBQ.out e.symm) QL);replace K4:=qh (Kept.row K4.out HG0.out QL);generalize World.setRow w4 _ _=w5 at *;refine wpList_plain rfl fun K hK=>qaa (vs:=YL) (b:=c) (n:=8) _ _ rfl rfl rfl B1.out L2.out rfl (by kernel_rfl) O2.out (hK _ _ ?_);clear hK K;replace B1:=qh (B1.out.row YL);replace B0:=qh (B0.out.off (g:=c) HBQ.out YL);replace K4:=qh (Kept.row K4.out HG1.out YL);generalize World.setRow w5 _ _=w6 at *;go_upto_region 4 with fail
 refine wp_region_list ?_;refine wpList_plain rfl fun K hK=>?_;go_step;refine hK _ _ ?_;clear hK K;have HCE0:=qh (show b<w6.heap.size∧c<w6.heap.size from⟨B0.out.lt,B1.out.lt⟩);replace B0:=qh (B0.out.kept (Kept.new (Below.refl _ w6) (.cells #[.int .i64 0,.int .i64 0,.int .i64 0,.int .i64 0] 89)));replace B1:=qh (B1.out.kept (Kept.new (Below.refl _ w6) (.cells #[.int .i64 0,.int .i64 0,.int .i64 0,.int .i64 0] 89)));have B2:=qh (Bx.new w6 [.int .i64 0,.int .i64 0,.int .i64 0,.int .i64 0] 89 w6.heap.size rfl);have HG2:=qh (show w.heap.size≤w6.heap.size from K4.out.size);have K7:=qh (Kept.new K4.out (.cells #[.int .i64 0,.int .i64 0,.int .i64 0,.int .i64 0] 89));obtain⟨e,he⟩: ∃e,e=w6.heap.size:=⟨_,rfl⟩
 rw[←he]at B2 HG2 HCE0⊢;clear he K4;generalize World.alloc w6 _=w7 at *;have B2Z:=qh (show Bx w7 e (plV S.L.length 0)from B2.out);go_upto_region 5 with fail
 refine wp_region_list ?_;refine wpList_plain rfl fun K hK=>qag (vs:=QL) (b:=b) (n:=28) _ rfl rfl B0.out L1.out underlying141 rfl (by kernel_rfl) (hK _ _ ?_);clear hK K;refine wpList_plain rfl fun K hK=>?_;go_step;refine hK _ _ ?_;clear hK K;go_wp2_with fail
 go_loopg [9,10,21] 4 (fun gh v9 v10 v21 wr=> ∃(m:Nat) (vm:Value),m+gh=4∧v21=.int .i64 (m:Int)∧TrM wr base p vm u ⟨S.L++qb9 u n q m,S.n⟩∧Bx wr c YL∧Bx wr e (plV S.L.length m)∧Far (TrB p v) w wr∧(vm.ownBlock=v.ownBlock∨∀i,vm.ownBlock=some i→w.heap.size≤i)∧(∀i,vm.ownBlock=some i→i≠c∧i≠e))
 case atStart=>
  refine⟨0,v,by omega,rfl,?_,B1.out,B2Z.out,Far.qcc K7.out,.inl rfl,fun i hi=>?_⟩
  ·have h1:=HM.out.kept K7.out
   have e1:S.L++qb9 u n q 0=S.L:=by unfold qb9;simp
   rw[e1];exact h1
  ·have h1:=(HM.out.own.lt i hi).2
   have h2:=HG1.out;have h3:=HG2.out;constructor<;>omega
 case round=>
  clear B0 B1 B2 B2Z K7;obtain⟨m,vm,hmg,rfl,hM,b1,b2,hfar,hnew,hoff⟩:=hrel;have HM2:=qh hM;have B1:=qh b1;have B2:=qh b2;have HF:=qh hfar;have HN:=qh hnew;have HO:=qh hoff;clear hM b1 b2 hfar hnew hoff;cases gk with
  |zero=>
   obtain rfl:m=4:=by omega
   go_upto_region 11 with fail
   obtain⟨g,off,cap,hvm,hbg,hgl,hgp,-,-⟩:=HM2.out.form (by show 0<(S.L++_).length;have:=HLT.out;rw[List.length_append];omega);obtain⟨N4,hN4⟩: ∃N4,N4=(S.L++qb9 u n q 4).length:=⟨_,rfl⟩
   have hlen:N4=S.L.length+4:=by rw[hN4,List.length_append,qgg u n q (Nat.le_refl 4)]
   have hown:=HM2.out.own;change Own wr base 13 vm (S.L++qb9 u n q 4).length _ at hown;have hvm2:vm=.slice (some ⟨g,off,none⟩) N4 cap:=by rw[hN4];exact hvm
   rw[←hN4]at hown;clear hvm;subst hvm2;have hkN:(k:Int)<(N4:Int):=by have:=HLT.out;omega
   have hcw: ∀i,i<4→(∃x,wr.cell? ⟨g,off+k*13+(9+i),none⟩=some x)∧wr.frozen? ⟨g,off+k*13+(9+i),none⟩=false:=fun i hi=>by
    have:=hown.cells (j:=k*13+(9+i)) (by have:=HLT.out;omega);rw[←Nat.add_assoc]at this;exact this
   obtain⟨⟨x0,c0⟩,f0⟩:=hcw 0 (by omega);obtain⟨⟨x1,c1⟩,f1⟩:=hcw 1 (by omega);obtain⟨⟨x2,c2⟩,f2⟩:=hcw 2 (by omega);obtain⟨⟨x3,c3⟩,f3⟩:=hcw 3 (by omega);simp only[Nat.add_zero,Nat.reduceAdd]at c0 c1 c2 c3 f0 f1 f2 f3;have p1:=HM2.out.box.c 1 rfl;have e0:=B2.out.c 0 rfl;have e1:=B2.out.c 1 rfl;have e2:=B2.out.c 2 rfl;have e3:=B2.out.c 3 rfl;simp only[Nat.reduceLT,if_true,Nat.add_zero]at e0 e1 e2 e3;have HOW:=qh hown;have HLE:=qh hlen;have HN4:=qh hN4;clear hown hlen hN4 hcw;have hS0:(wr.drew.cell? ⟨p,1,none⟩=some (.slice (some ⟨g,off,none⟩) N4 cap))∧wr.drew.cell? ⟨e,0,none⟩=some (.int .i64 (S.L.length:Nat))∧wr.drew.cell? ⟨e,1,none⟩=some (.int .i64 (S.L.length+1:Nat))∧wr.drew.cell? ⟨e,2,none⟩=some (.int .i64 (S.L.length+2:Nat))∧wr.drew.cell? ⟨e,3,none⟩=some (.int .i64 (S.L.length+3:Nat)):=⟨p1,e0,e1,e2,e3⟩
   have hfz:wr.drew.frozen? ⟨g,off+k*13+9,none⟩=false∧wr.drew.frozen? ⟨g,off+k*13+10,none⟩=false∧wr.drew.frozen? ⟨g,off+k*13+11,none⟩=false∧wr.drew.frozen? ⟨g,off+k*13+12,none⟩=false:=⟨f0,f1,f2,f3⟩
   have hcz:wr.drew.cell? ⟨g,off+k*13+9,none⟩=some x0∧wr.drew.cell? ⟨g,off+k*13+10,none⟩=some x1∧wr.drew.cell? ⟨g,off+k*13+11,none⟩=some x2∧wr.drew.cell? ⟨g,off+k*13+12,none⟩=some x3:=⟨c0,c1,c2,c3⟩
   obtain⟨z0,z1,z2,z3⟩:=hcz;obtain⟨y0,y1,y2,y3⟩:=hfz;refine qac (fun W=>(W.cell? ⟨p,1,none⟩=some (.slice (some ⟨g,off,none⟩) N4 cap))∧W.cell? ⟨e,0,none⟩=some (.int .i64 (S.L.length:Nat))∧W.cell? ⟨e,1,none⟩=some (.int .i64 (S.L.length+1:Nat))∧W.cell? ⟨e,2,none⟩=some (.int .i64 (S.L.length+2:Nat))∧W.cell? ⟨e,3,none⟩=some (.int .i64 (S.L.length+3:Nat))) [8] (by kernel_rfl) ?_ (fun hHeld=>?_)
   ·assumption
   refine wS 0 61 ?_;refine wS 1 62 ?_;refine wS 2 63 ?_;refine wS 3 64 ?_;refine wS 4 65 ?_;refine wS 5 66 ?_;refine wS 6 67 ?_;refine wS 7 68 ?_;refine eS 8 fun K hK=>?_;go_simp;refine hK.out _ _ ?_;clear hK K;try simp only[Act.put,tdy]
   refine dS ?_ _;have hj: ∀i,i<4→k*13+(9+i)<N4*13:=fun i hi=>by have:=HLT.out;have:=HLE.out;omega
   have hk4:(S.L++qb9 u n q 4)[k]? =some n:=by rw[List.getElem?_append_left HLT.out];exact HK.out
   have h5:=(((HOW.out.put (hj 0 (by omega)) (.int .i64 (S.L.length:Nat))).put (hj 1 (by omega)) (.int .i64 (S.L.length+1:Nat))).put (hj 2 (by omega)) (.int .i64 (S.L.length+2:Nat))).put (hj 3 (by omega)) (.int .i64 (S.L.length+3:Nat));rw[qip (S.L++qb9 u n q 4) k n _ _ _ _ hk4]at h5;have h6:Own (((((wr.setCell ⟨g,off+k*13+9,none⟩ (.int .i64 (S.L.length:Nat))).setCell ⟨g,off+k*13+9+1,none⟩ (.int .i64 ((S.L.length:Nat)+1))).setCell ⟨g,off+k*13+9+2,none⟩ (.int .i64 ((S.L.length:Nat)+2))).setCell ⟨g,off+k*13+9+3,none⟩ (.int .i64 ((S.L.length:Nat)+3))).drew) base 13 (.slice (some ⟨g,off,none⟩) N4 cap) N4 (qbJ (qaI S.L k n q (qbQ u))):=by rw[←qkT u S.L k n q HLT.out];simp only[←Nat.add_assoc]at h5;exact h5
   have h7:Bx (((((wr.setCell ⟨g,off+k*13+9,none⟩ (.int .i64 (S.L.length:Nat))).setCell ⟨g,off+k*13+9+1,none⟩ (.int .i64 ((S.L.length:Nat)+1))).setCell ⟨g,off+k*13+9+2,none⟩ (.int .i64 ((S.L.length:Nat)+2))).setCell ⟨g,off+k*13+9+3,none⟩ (.int .i64 ((S.L.length:Nat)+3))).drew) p [.iface 31 (.agg (ruL u).toArray),.slice (some ⟨g,off,none⟩) N4 cap,.int .i64 (S.n:Int)]:=(((HM2.out.box.far ⟨g,off+k*13+9,none⟩ hgp.symm _).far ⟨g,off+k*13+9+1,none⟩ hgp.symm _).far ⟨g,off+k*13+9+2,none⟩ hgp.symm _).far ⟨g,off+k*13+9+3,none⟩ hgp.symm _;have hqg:g<w.heap.size→TrB p v g:=fun hlt=>by rcases HN.out with h|h;exact .inr (by rw[←h];rfl);exact absurd (h g rfl) (by omega)
   have h8:Far (TrB p v) w (((((wr.setCell ⟨g,off+k*13+9,none⟩ (.int .i64 (S.L.length:Nat))).setCell ⟨g,off+k*13+9+1,none⟩ (.int .i64 ((S.L.length:Nat)+1))).setCell ⟨g,off+k*13+9+2,none⟩ (.int .i64 ((S.L.length:Nat)+2))).setCell ⟨g,off+k*13+9+3,none⟩ (.int .i64 ((S.L.length:Nat)+3))).drew):=((((HF.out.set ⟨g,_,none⟩ _ hqg).set ⟨g,_,none⟩ _ hqg).set ⟨g,_,none⟩ _ hqg).set ⟨g,_,none⟩ _ hqg).drew;generalize(((((wr.setCell ⟨g,off+k*13+9,none⟩ (.int .i64 (S.L.length:Nat))).setCell ⟨g,off+k*13+9+1,none⟩ (.int .i64 ((S.L.length:Nat)+1))).setCell ⟨g,off+k*13+9+2,none⟩ (.int .i64 ((S.L.length:Nat)+2))).setCell ⟨g,off+k*13+9+3,none⟩ (.int .i64 ((S.L.length:Nat)+3))).drew)=w8 at h6 h7 h8⊢;clear z0 z1 z2 z3 y0 y1 y2 y3 c0 c1 c2 c3 f0 f1 f2 f3 p1 e0 e1 e2 e3 h5;have H6:=qh h6;have H7:=qh h7;have H8:=qh h8;have hfew:=HS.out.few;have ew:IntKind.i64.wrap ((S.n:Int)+3)=((S.n+3:Nat):Int):=by rw[IntWalk.i64_in _ (by omega)];omega
   clear h6 h7 h8 hfew hj hk4 hqg;have l2:=H7.out.c 2 rfl;have m2:=H7.out.f 2;go_wp2_with fail
   exact bodyPost_ret (v:=.bool true) (by simp[results,results34,go_sem]) rfl ⟨_,rfl,⟨H7.out.set 2 _ (by simp),by show Own _ base 13 _ (qaI S.L k n q (qbQ u)).length _;rw[qbR,←HLE.out];exact H6.out.far (fun i hi=>by cases hi;exact hgp) _,HM.out.ge,fun i hi=>by cases hi;exact hgp⟩,H8.out.set ⟨p,2,none⟩ _ (fun _=>.inl rfl),HN.out⟩
  |succ gm=>
   obtain⟨G,hG,hGok,hidx,hy0,hy1⟩:=CK.out m (by omega);obtain⟨⟨g0,g1,g2⟩,⟨g3,g4,g5⟩,g6⟩:=G;simp only at hidx hy0 hy1;have hm4:(m:Int)<4:=by omega
   have hm0:(0:Int)≤(m:Int):=by omega
   have HGG:=qh hG;have HGO:=qh hGok;have HY0:=qh hy0;have HY1:=qh hy1;clear hy0 hy1 hG hGok;go_upto_region 7 with fail
   refine wp_region_list ?_;refine wpList_plain rfl fun K hK=>?_;go_step;refine hK _ _ ?_;clear hK K;refine wpList_plain rfl fun K hK=>?_;go_step;refine hK _ _ ?_;clear hK K;refine wpList_plain rfl fun K hK=>?_;go_step;refine hK _ _ ?_;clear hK K;have HGW:=qh (fun i hi=>(HM2.out.own.lt i hi).2);have HQR:=qh (show c<wr.heap.size∧e<wr.heap.size from⟨B1.out.lt,B2.out.lt⟩);have KW:=qh (Kept.new (Below.refl _ wr) (.cells ZL4.toArray 26));have B3:=qh (Bx.new wr ZL4 26 wr.heap.size rfl);obtain⟨y,hy⟩: ∃y,y=wr.heap.size:=⟨_,rfl⟩
   have HY:=qh (show wr.heap.size≤y by omega);rw[←hy]at B3⊢;clear hy hidx;generalize World.alloc wr _=w11 at *;refine wpList_plain rfl fun K hK=>?_;go_step;refine hK _ _ ?_;clear hK K;refine wpList_plain rfl fun K hK=>qaa (vs:=(LC3 g0 g1 g2 g3 g4 g5 g6)) (b:=y) (n:=7) _ _ rfl rfl rfl B3.out rfl rfl (by kernel_rfl) rfl (hK _ _ ?_);clear hK K;replace B3:=qh (B3.out.row (LC3 g0 g1 g2 g3 g4 g5 g6));replace KW:=qh (Kept.row KW.out HY.out (LC3 g0 g1 g2 g3 g4 g5 g6));generalize World.setRow w11 _ _=w12 at *;replace HM2:=qh (HM2.out.kept KW.out);replace B1:=qh (B1.out.kept KW.out);replace B2:=qh (B2.out.kept KW.out);replace HF:=qh (HF.out.then KW.out);go_upto_region 8 with fail
   obtain⟨g,off,cap,hvm,hbg,hgl,hgp,hcell,-⟩:=HM2.out.form (by show 0<(S.L++_).length;have:=HLT.out;rw[List.length_append];omega);obtain⟨N4,hN4⟩: ∃N4,N4=(S.L++qb9 u n q m).length:=⟨_,rfl⟩
   have hlen:N4=S.L.length+m:=by rw[hN4,List.length_append,qgg u n q (by omega)]
   have hvm2:vm=.slice (some ⟨g,off,none⟩) N4 cap:=by rw[hN4];exact hvm
   clear hvm;subst hvm2;have p1:=HM2.out.box.c 1 rfl;have e0:=B2.out.c m (show(plV S.L.length m)[m]? =some (.int .i64 0) by rcases(show m=0∨m=1∨m=2∨m=3 by omega)with rfl|rfl|rfl|rfl<;>rfl);have f0:=B2.out.f m;have HCELL:=qh hcell;have HLE:=qh hlen;have HN4:=qh hN4;clear hlen hN4 hcell;go_upto_region 9 with fail
   have hpe:p≠e:=by have h1:=HM.out.box.lt;have h2:=HG2.out;omega
   have hge:g≠e:=(HO.out g rfl).2;have hye:y≠e:=by have h1:=HQR.out;have h2:=HY.out;omega
   have hce:c≠e:=by have h1:=HCE0.out;omega
   have HM3:=qh (HM2.out.to (s:=fun i=>i=e) (Far.set (Far.refl _ w12) ⟨e,m,none⟩ (.int .i64 (N4:Int)) (fun _=>rfl)) (fun i hi=>by rcases hi with rfl|hi;exact hpe;cases hi;exact hge));have B1n:=qh (B1.out.far ⟨e,m,none⟩ hce (.int .i64 (N4:Int)));have B3n:=qh (B3.out.far ⟨e,m,none⟩ hye (.int .i64 (N4:Int)));have B2n:=qh (B2.out.set m (.int .i64 (N4:Int)) (by show m<4;omega));have HFn:=qh (HF.out.set ⟨e,m,none⟩ (.int .i64 (N4:Int)) (fun h=>absurd h (by have:=HG2.out;show¬e<_;omega)));generalize w12.setCell ⟨e,m,none⟩ (.int .i64 (N4:Int))=w14 at *;clear e0 f0 p1 HM2 B1 B2 B3 HF
   have hd:w14.cell? ⟨g,off+k*13+8,none⟩=some (.int .i64 (n.depth:Int)):=by
    obtain⟨g2,off2,cap2,hv,-,-,-,hc2,-⟩:=HM3.out.form (by show 0<(S.L++_).length;have:=HLT.out;rw[List.length_append];omega);injection hv with h1 _ _;injection h1 with h1;injection h1 with h1 h2;subst h1;subst h2;rw[Nat.add_assoc];exact hc2 k n 8 _ (by show(S.L++_)[k]? =_;rw[List.getElem?_append_left HLT.out];exact HK.out) rfl
   have p0:=HM3.out.box.c 0 rfl;have p1:=HM3.out.box.c 1 rfl;have d0:=B1n.out.c _ HY0.out;have d1:=B1n.out.c _ HY1.out;obtain⟨y0,y1,y2,y3,y4,y5,y6⟩:=B3n.out.c7;have hkN:(k:Int)<(N4:Int):=by have:=HLT.out;have:=HLE.out;omega
   have hlt3:=qh1 HGO.out;have ASK:=qh (fun W=>qlz u HU.out _ _ _ hlt3.1 hlt3.2.1 hlt3.2.2 W);have HTT:=qh (show qbQ u ⟨⟨g0,g1,g2⟩,⟨g3,g4,g5⟩,g6⟩=qhg u (qah ⟨⟨g0,g1,g2⟩,⟨g3,g4,g5⟩,g6⟩).1.re (qah ⟨⟨g0,g1,g2⟩,⟨g3,g4,g5⟩,g6⟩).1.im (qah ⟨⟨g0,g1,g2⟩,⟨g3,g4,g5⟩,g6⟩).1.r from rfl)
   have ew:IntKind.i64.wrap ((n.depth:Int)+1)=((n.depth+1:Nat):Int):=by
    have:=(HS.out.nd k n HK.out).depth;rw[IntWalk.i64_in _ (by omega)];omega
   clear hlt3;generalize qhg u (qah ⟨⟨g0,g1,g2⟩,⟨g3,g4,g5⟩,g6⟩).1.re (qah ⟨⟨g0,g1,g2⟩,⟨g3,g4,g5⟩,g6⟩).1.im (qah ⟨⟨g0,g1,g2⟩,⟨g3,g4,g5⟩,g6⟩).1.r=tt at ASK HTT;generalize(qah ⟨⟨g0,g1,g2⟩,⟨g3,g4,g5⟩,g6⟩).1.re=b0 at *;generalize(qah ⟨⟨g0,g1,g2⟩,⟨g3,g4,g5⟩,g6⟩).1.im=b1 at *;generalize(qah ⟨⟨g0,g1,g2⟩,⟨g3,g4,g5⟩,g6⟩).1.r=b2 at *;obtain⟨dd,hdd⟩: ∃dd,dd=n.depth:=⟨_,rfl⟩
   rw[←hdd]at hd ew;have HDD:=qh hdd;clear hdd;have hS0:((w14.drew.cell? ⟨p,0,none⟩=some (.iface 31 (.agg (ruL u).toArray)))∧w14.drew.cell? ⟨p,1,none⟩=some (.slice (some ⟨g,off,none⟩) N4 cap))∧(w14.drew.cell? ⟨y,0,none⟩=some (.bool g0)∧w14.drew.cell? ⟨y,1,none⟩=some (.string g1)∧w14.drew.cell? ⟨y,2,none⟩=some (.int .i64 g2)∧w14.drew.cell? ⟨y,3,none⟩=some (.bool g3)∧w14.drew.cell? ⟨y,4,none⟩=some (.string g4)∧w14.drew.cell? ⟨y,5,none⟩=some (.int .i64 g5)∧w14.drew.cell? ⟨y,6,none⟩=some (.int .i64 g6))∧(w14.drew.cell? ⟨c,m*2,none⟩=some (.complex .f64 b0 b1)∧w14.drew.cell? ⟨c,m*2+1,none⟩=some (.float .f64 b2))∧w14.drew.cell? ⟨g,off+k*13+8,none⟩=some (.int .i64 (dd:Int)):=⟨⟨p0,p1⟩,⟨y0,y1,y2,y3,y4,y5,y6⟩,⟨d0,d1⟩,hd⟩
   have HOWN:Hid (Own w14 base 13 (.slice (some ⟨g,off,none⟩) N4 cap) N4 (qbJ (S.L++qb9 u n q m))):=by
    have h:=HM3.out.own;change Own w14 base 13 _ (S.L++qb9 u n q m).length _ at h;rw[←HN4.out]at h;exact h
   have SK:Hid (∀W,Kept w14 W→((W.cell? ⟨p,0,none⟩=some (.iface 31 (.agg (ruL u).toArray)))∧W.cell? ⟨p,1,none⟩=some (.slice (some ⟨g,off,none⟩) N4 cap))∧(W.cell? ⟨y,0,none⟩=some (.bool g0)∧W.cell? ⟨y,1,none⟩=some (.string g1)∧W.cell? ⟨y,2,none⟩=some (.int .i64 g2)∧W.cell? ⟨y,3,none⟩=some (.bool g3)∧W.cell? ⟨y,4,none⟩=some (.string g4)∧W.cell? ⟨y,5,none⟩=some (.int .i64 g5)∧W.cell? ⟨y,6,none⟩=some (.int .i64 g6))∧(W.cell? ⟨c,m*2,none⟩=some (.complex .f64 b0 b1)∧W.cell? ⟨c,m*2+1,none⟩=some (.float .f64 b2))∧W.cell? ⟨g,off+k*13+8,none⟩=some (.int .i64 (dd:Int))):=fun W h=>⟨⟨(HM3.out.box.kept h).c 0 rfl,(HM3.out.box.kept h).c 1 rfl⟩,(B3n.out.kept h).c7,⟨(B1n.out.kept h).c _ HY0.out,(B1n.out.kept h).c _ HY1.out⟩,(h.cells _ _ (lt_of_cell hd)).trans hd⟩
   refine qac (fun W=>((W.cell? ⟨p,0,none⟩=some (.iface 31 (.agg (ruL u).toArray)))∧W.cell? ⟨p,1,none⟩=some (.slice (some ⟨g,off,none⟩) N4 cap))∧(W.cell? ⟨y,0,none⟩=some (.bool g0)∧W.cell? ⟨y,1,none⟩=some (.string g1)∧W.cell? ⟨y,2,none⟩=some (.int .i64 g2)∧W.cell? ⟨y,3,none⟩=some (.bool g3)∧W.cell? ⟨y,4,none⟩=some (.string g4)∧W.cell? ⟨y,5,none⟩=some (.int .i64 g5)∧W.cell? ⟨y,6,none⟩=some (.int .i64 g6))∧(W.cell? ⟨c,m*2,none⟩=some (.complex .f64 b0 b1)∧W.cell? ⟨c,m*2+1,none⟩=some (.float .f64 b2))∧W.cell? ⟨g,off+k*13+8,none⟩=some (.int .i64 (dd:Int))) [28] (by kernel_rfl) ?_ (fun hHeld=>?_)
   ·(first|assumption|exact SK.out _ (K15.out.trans' (Kept.new (Below.refl _ _) _)))
   refine wS 0 32 ?_;refine wS 1 33 ?_;refine wS 2 34 ?_;refine wS 3 35 ?_;refine wS 4 36 ?_;refine wS 5 37 ?_;refine wS 6 38 ?_;refine wS 7 39 ?_;refine wS 8 40 ?_;refine wS 9 41 ?_;refine wS 10 42 ?_;refine wS 11 43 ?_;refine wS 12 44 ?_;refine wS 14 46 ?_;refine wS 15 47 ?_;refine wS 16 48 ?_;refine wS 17 49 ?_;refine wS 18 50 ?_;refine wS 19 51 ?_;refine wS 20 52 ?_;refine wS 21 53 ?_;refine wS 22 54 ?_;refine oS 13 fun K hK=>?_;go_simp;(refine(ASK.out _).mono ?_;rintro en w15 ⟨rfl,hk15⟩;have K15:Hid (Kept w14 w15):=qh ((Below.refl _ w14).drew.trans (hk15.mono (Nat.le_refl _)));have hS15:=SK.out w15 K15.out)
   refine hK.out _ _ ?_ (fun hHeld=>?_)
   ·(first|assumption|exact SK.out _ (K15.out.trans' (Kept.new (Below.refl _ _) _)))
   clear hK K;try simp only[Act.put,tdy]
   refine wS 23 55 ?_;refine oS 24 fun K hK=>?_;go_simp;refine hK.out _ _ ?_ (fun hHeld=>?_)
   ·(first|assumption|exact SK.out _ (K15.out.trans' (Kept.new (Below.refl _ _) _)))
   clear hK K;try simp only[Act.put,tdy]
   have hl15:w14.heap.size≤w15.heap.size:=K15.out.size;refine qfe (i:=25) (by kernel_rfl) rfl (fun K hK=>?_);obtain⟨i0,hi,hi0,hi1,hi2⟩:=info_parts qlE;refine qdM _ rfl _ _ 92 rfl base 91 i0 (.agg #[.bool false,.string ⟨#[]⟩,.int .i64 0,.bool false,.string ⟨#[]⟩,.int .i64 0,.int .i64 0,.int .u8 0,.int .i64 0,.int .i64 0,.int .i64 0,.int .i64 0,.int .i64 0]) 13 120 underlying92 hi hi0 hi1 hi2 rfl (by decide) (.slice (some ⟨g,off,none⟩) N4 cap) N4 (qbJ (S.L++qb9 u n q m)) rfl ((HOWN.out.kept K15.out).alloc _) (some ⟨w15.heap.size,0,none⟩) 1 1 (ndV ⟨⟨⟨g0,g1,g2⟩,⟨g3,g4,g5⟩,g6⟩,tt,dd+1,none⟩) rfl rfl (Row.qbP _ _ _ _ _ _ rfl rfl) (by rw[←qfM];exact qf3 _) (by have:=HS.out.len;have:=HLE.out;unfold maxLen;omega) (by have:=HS.out.len;have:=HLE.out;omega) (by have:=(HOWN.out.lt g rfl);have:=hl15;simp;omega) ?_;intro v6 w6 hown6 hg6 hv6 hold6;obtain⟨A6,c6,rfl,-,-,-,-,-⟩:=hown6.form;have hKX:=K15.out.trans' (Kept.new (Below.refl _ w15) (.cells (ndV ⟨⟨⟨g0,g1,g2⟩,⟨g3,g4,g5⟩,g6⟩,tt,dd+1,none⟩).toArray 91));have hgy:y≠g:=by have:=HGW.out g rfl;have:=HY.out;omega
   have hgc:c≠g:=fun e=>(HO.out g rfl).1 e.symm;have BP6:=((HM3.out.box.kept hKX).grown (q:=g) hg6 hgp.symm)
   have BY6:=((B3n.out.kept hKX).grown (q:=g) hg6 hgy)
   have BC6:=((B1n.out.kept hKX).grown (q:=g) hg6 hgc)
   have q1:=BP6.c 1 rfl;have r1:=BP6.f 1;have hd6:w6.cell? ⟨g,off+k*13+8,none⟩=some (.int .i64 (dd:Int)):=by(rw[Nat.add_assoc,HDD.out]);exact hold6.at_ ((qeS _ k n 8 (by rw[List.getElem?_append_left HLT.out];exact HK.out) (by omega)).trans rfl)
   have hS6:((w6.cell? ⟨p,0,none⟩=some (.iface 31 (.agg (ruL u).toArray)))∧w6.cell? ⟨p,1,none⟩=some (.slice (some ⟨g,off,none⟩) N4 cap))∧(w6.cell? ⟨y,0,none⟩=some (.bool g0)∧w6.cell? ⟨y,1,none⟩=some (.string g1)∧w6.cell? ⟨y,2,none⟩=some (.int .i64 g2)∧w6.cell? ⟨y,3,none⟩=some (.bool g3)∧w6.cell? ⟨y,4,none⟩=some (.string g4)∧w6.cell? ⟨y,5,none⟩=some (.int .i64 g5)∧w6.cell? ⟨y,6,none⟩=some (.int .i64 g6))∧(w6.cell? ⟨c,m*2,none⟩=some (.complex .f64 b0 b1)∧w6.cell? ⟨c,m*2+1,none⟩=some (.float .f64 b2))∧w6.cell? ⟨g,off+k*13+8,none⟩=some (.int .i64 (dd:Int)):=⟨⟨BP6.c 0 rfl,q1⟩,BY6.c7,⟨BC6.c _ HY0.out,BC6.c _ HY1.out⟩,hd6⟩
   refine hK.out _ _ hS6 (fun hHeld=>?_);clear hK K;try simp only[Act.put,tdy]
   refine wS 26 58 ?_;refine wS 27 59 ?_;refine eS 28 fun K hK=>?_;go_simp;refine hK.out _ _ ?_;clear hK K;try simp only[Act.put,tdy]
   refine dS ?_ _;have hsz6:w14.heap.size<w6.heap.size:=by(have h1:=hg6.size;simp at h1;omega)
   have hgw:g<w14.heap.size:=(HOWN.out.lt g rfl).2;have hnw: ∀i,(Value.slice A6 (N4+1) c6).ownBlock=some i→i=g∨w14.heap.size<i:=fun i hi=>hv6.elim (fun h=>.inl (by rw[h]at hi;exact(Option.some.inj hi).symm)) (fun h=>.inr (by have h2:=h i hi;simp at h2;omega));have hpw:=HM3.out.box.lt;have hcw:=B1n.out.lt;have heww:=B2n.out.lt;have h6p: ∀i,(Value.slice A6 (N4+1) c6).ownBlock=some i→i≠p:=fun i hi=>by(rcases hnw i hi with rfl|h;exact hgp;omega)
   have h6c: ∀i,(Value.slice A6 (N4+1) c6).ownBlock=some i→i≠c∧i≠e:=fun i hi=>by(rcases hnw i hi with rfl|h;exact HO.out _ rfl;constructor<;>omega)
   have hll:qbJ (S.L++qb9 u n q m)++ndV ⟨⟨⟨g0,g1,g2⟩,⟨g3,g4,g5⟩,g6⟩,tt,dd+1,none⟩=qbJ (S.L++qb9 u n q (m+1)):=by(rw[qkH u n q HGG.out,HTT.out,←List.append_assoc,qeI (S.L++qb9 u n q m),qfM];rw[HDD.out];rfl)
   rw[hll]at hown6;have hlen6:N4+1=(S.L++qb9 u n q (m+1)).length:=by(rw[List.length_append,qgg u n q (by omega)];have:=HLE.out;omega)
   have hqg:g<w.heap.size→TrB p v g:=fun hlt=>by(rcases HN.out with h|h;exact .inr (by rw[←h];rfl);exact absurd (h g rfl) (by omega))
   have HM7:=qh (show TrM (w6.setCell ⟨p,1,none⟩ (.slice A6 (N4+1) c6)) base p (.slice A6 (N4+1) c6) u ⟨S.L++qb9 u n q (m+1),S.n⟩from⟨BP6.set 1 _ (by simp),by(show Own _ base 13 _ (S.L++qb9 u n q (m+1)).length _;rw[←hlen6];exact hown6.far h6p _),HM.out.ge,h6p⟩);have B17:=qh (BC6.far ⟨p,1,none⟩ (by(have h1:=HM.out.box.lt;have h2:=HG1.out;show c≠p;omega)) (.slice A6 (N4+1) c6));have B27:=qh ((show Bx _ e (plV S.L.length (m+1)) by(rw[qnw _ (by omega),←HLE.out];exact((B2n.out.kept hKX).grown (q:=g) hg6 hge.symm))).far ⟨p,1,none⟩ hpe.symm (.slice A6 (N4+1) c6));have HF7:=qh (((HFn.out.then hKX).trans (Far.qfQ (s:=fun i=>i=g) hg6 (fun i hi=>(Option.some.inj hi).symm)) (fun i hi e=>by(subst e;exact hqg hi))).set ⟨p,1,none⟩ (.slice A6 (N4+1) c6) (fun _=>.inl rfl));have HN7:Hid ((Value.slice A6 (N4+1) c6).ownBlock=v.ownBlock∨∀i,(Value.slice A6 (N4+1) c6).ownBlock=some i→w.heap.size≤i):=qh (hv6.elim (fun h=>by rw[h];exact HN.out) (fun h=>.inr fun i hi=>by have h1:=h i hi;have h2:=HFn.out.size;simp at h1;omega));have HO7:=qh h6c;clear hsz6 hgw hnw hpw hcw heww h6p h6c hll hown6 hlen6 hqg BP6 BY6 BC6 hold6 hg6 hv6 hKX hS6 hHeld hl15 hgy hgc q1 r1 hd6;generalize w6.setCell ⟨p,1,none⟩ (.slice A6 (N4+1) c6)=w7 at *;go_wp2_with fail
   go_roundg gm
   case measure=>omega
   case rel=>exact⟨m+1,_,by omega,by go_num,HM7.out,B17.out,B27.out,HF7.out,HN7.out,HO7.out⟩
end
end Go.Proofs.YtfdnledkcongaaaGreatDoor
