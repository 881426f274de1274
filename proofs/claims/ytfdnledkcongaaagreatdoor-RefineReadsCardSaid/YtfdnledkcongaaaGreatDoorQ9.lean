/- Texts of one claim laid together: VrD, TelA, TelB, TelC, TelD, VieE. -/
import Derived.Test.YtfdnledkcongaaaGreatDoorQ8
set_option linter.all false
namespace Go.Proofs.YtfdnledkcongaaaGreatDoor
open Go.RowKit Go.Proofs.Tryz
section
set_option maxHeartbeats 25600000
set_option maxRecDepth 100000
attribute [local go_sem] run_float_arith qaM qaN qaw qaf qad
theorem qjg (s:SqD) (w:World) (hs:sqB s=true) (hc:qaY s=none):
  Calls prog 41 #[.agg #[.bool s.left.neg,.string s.left.n,.int .i64 s.left.e,.bool s.low.neg,.string s.low.n,.int .i64 s.low.e,.int .i64 s.e]] w fun en w'=> ∃c1 c2 r:Nat,c1<18446744073709551616∧c2<18446744073709551616∧r<18446744073709551616∧en=.returned (.tuple #[.agg #[.complex .f64 c1 c2,.float .f64 r],.int .i64 (qah s).2])∧Kept w w':=by
 have HE:=qh (show(qah s).2=4 by unfold qah;rw[hc]);have CO:=qh (fun W=>qfZ s W hs);have MID:=qh (fun W=>qeJ s W hs);rw[hc]at CO;rw[HE.out];generalize qbB s=M at *;obtain⟨⟨a0,a1,a2⟩,⟨a3,a4,a5⟩,a6⟩:=s;obtain⟨⟨⟨m0,m1,m2⟩,⟨m3,m4,m5⟩⟩,m6⟩:=M;simp only at CO MID⊢;clear hs hc;go_enter func41,ntmps41
 go_upto_region 1 with fail
 obtain⟨b,w1,hw,hb,B0,B1,K1,HB⟩:=qa6 w (LC3 a0 a1 a2 a3 a4 a5 a6) 26 [.complex .f64 0 0,.float .f64 0] 85;rw[←hw,←hb];clear hw hb;obtain⟨c0,c1,c2,c3,c4,c5,c6⟩:=B0.out.c7;clear c0 c1 c2 c3 c4 c5 c6;refine wp_region_list ?_;refine wpList_plain rfl fun K hK=>qag (b:=b) (n:=7) _ rfl rfl B0.out rfl underlying26 rfl (by kernel_rfl) (hK _ _ ?_);clear hK K;refine wpList_plain rfl fun K hK=>?_;go_step;(with_reducible refine(CO.out _).mono ?_);rintro e w3 ⟨rfl,hk3⟩
 refine hK _ _ ?_;clear hK K CO;refine wpList_plain rfl fun K hK=>BigFrame.wp_move _ rfl (hK _ _ ?_);clear hK K;refine wpList_plain rfl fun K hK=>?_;go_step;refine hK _ _ ?_;clear hK K;refine wpList_plain rfl fun K hK=>?_;go_step;refine hK _ _ ?_;clear hK K;refine wpList_plain rfl fun K hK=>?_;go_step;refine hK _ _ ?_;clear hK K;have HG:=qh (show w1.heap.size≤w3.heap.size from hk3.size);have K4:=qh (Kept.new hk3 (.cells ZL1.toArray 64));have B2:=qh (Bx.new w3 ZL1 64 w3.heap.size rfl);obtain⟨g,hg⟩: ∃g,g=w3.heap.size:=⟨_,rfl⟩
 rw[←hg]at B2 HG⊢;clear hg hk3;generalize World.alloc w3 _=w4 at *;refine wpList_plain rfl fun K hK=>qaa (b:=g) (n:=24) _ _ rfl rfl rfl B2.out rfl rfl (by kernel_rfl) rfl (hK _ _ ?_);clear hK K;replace B2:=qh (B2.out.row ZL1);replace K4:=qh (Kept.row K4.out HG.out ZL1);generalize World.setRow w4 _ _=w5 at *;refine wpList_plain rfl fun K hK=>?_;go_step;refine hK _ _ ?_;clear hK K;obtain⟨c0,c1,c2,c3,c4,c5,c6⟩:=(B0.out.kept K4.out).c7;go_upto_region 3 with (go_at_call 76;(with_reducible refine(MID.out _).mono ?_);rintro e w6 ⟨rfl,hk6⟩)
 have K7:=qh (Kept.new (K4.out.trans' hk6) (.cells (LC1 m0 m1 m2 m3 m4 m5).toArray 28));have B3:=qh (Bx.new w6 (LC1 m0 m1 m2 m3 m4 m5) 28 w6.heap.size rfl);replace B2:=qh ((B2.out.kept hk6).kept (Kept.new (Below.refl _ _) (.cells (LC1 m0 m1 m2 m3 m4 m5).toArray 28)));obtain⟨g2,hg⟩: ∃g,g=w6.heap.size:=⟨_,rfl⟩
 rw[←hg]at B3⊢;clear hg hk6;generalize(w6.alloc (.cells (LC1 m0 m1 m2 m3 m4 m5).toArray 28))=w7 at *;clear c0 c1 c2 c3 c4 c5 c6 MID;obtain⟨re0,re1⟩:(World.cell? _ ⟨b+1,0,none⟩=some (.complex .f64 0 0))∧(World.cell? _ ⟨b+1,1,none⟩=some (.float .f64 0)):=⟨(B1.out.kept K7.out).c 0 rfl,(B1.out.kept K7.out).c 1 rfl⟩
 obtain⟨rf0,rf1⟩:(World.frozen? _ ⟨b+1,0,none⟩=false)∧(World.frozen? _ ⟨b+1,1,none⟩=false):=⟨(B1.out.kept K7.out).f 0,(B1.out.kept K7.out).f 1⟩
 go_wp2_with fail
 exact bodyPost_ret (v:=.tuple #[.agg #[.complex .f64 0 0,.float .f64 0],.int .i64 4]) (by simp[results,results41,go_sem,re0,re1]) rfl ⟨0,0,0,by decide,by decide,by decide,rfl,((K1.out.trans' K7.out).set (b:=b+1) (by have:=HB.out;omega) 0 _).set (b:=b+1) (by have:=HB.out;omega) 1 _⟩
theorem qjD (s:SqD) (X Y:DyD) (w:World) (hs:sqB s=true) (hX:qae X=true) (hY:qae Y=true) (hc:qaY s=some [⟨s.left,s.low⟩,⟨X,s.low⟩,⟨s.left,Y⟩,⟨X,Y⟩]):
  Calls prog 41 #[.agg #[.bool s.left.neg,.string s.left.n,.int .i64 s.left.e,.bool s.low.neg,.string s.low.n,.int .i64 s.low.e,.int .i64 s.e]] w fun en w'=> ∃c1 c2 r:Nat,c1<18446744073709551616∧c2<18446744073709551616∧r<18446744073709551616∧en=.returned (.tuple #[.agg #[.complex .f64 c1 c2,.float .f64 r],.int .i64 (qah s).2])∧Kept w w':=by
 have CO:Hid (∀W,Calls prog 75 #[.agg #[.bool s.left.neg,.string s.left.n,.int .i64 s.left.e,.bool s.low.neg,.string s.low.n,.int .i64 s.low.e,.int .i64 s.e]] W fun en w'=>en=.returned (.tuple #[.agg #[.bool s.left.neg,.string s.left.n,.int .i64 s.left.e,.bool s.low.neg,.string s.low.n,.int .i64 s.low.e,.bool X.neg,.string X.n,.int .i64 X.e,.bool s.low.neg,.string s.low.n,.int .i64 s.low.e,.bool s.left.neg,.string s.left.n,.int .i64 s.left.e,.bool Y.neg,.string Y.n,.int .i64 Y.e,.bool X.neg,.string X.n,.int .i64 X.e,.bool Y.neg,.string Y.n,.int .i64 Y.e],.int .i64 0])∧Kept W w'):=fun W=>by
  have:=qfZ s W hs;rwa [hc]at this
 have MID:=qh (fun W=>qeJ s W hs);have HM:(qbB s).2=0∨qbB s=(zG,4):=qeY _ _;have hMo:gsB (qbB s).1=true:=qgH hs;obtain⟨hs1,hs2,-,-⟩:=qax.1 hs;have NEAR:=qh (fun W=>qkw (qbB s).1 W hMo);have hP:qaU (qbB s).1.re<18446744073709551616:=qeg (qan.1 hMo).1;have hQ:qaU (qbB s).1.im<18446744073709551616:=qeg (qan.1 hMo).2;have CPX:=qh (fun W=>qfs _ _ W hP hQ);obtain⟨E,hE⟩: ∃E,E=(qah s).2:=⟨_,rfl⟩
 rw[←hE];suffices key: ∀PQ:Ending→World→Prop,(∀ (e:Int) (c1 c2 r:Nat) (W:World),e=E→c1<18446744073709551616→c2<18446744073709551616→r<18446744073709551616→Kept w W→PQ (.returned (.tuple #[.agg #[.complex .f64 c1 c2,.float .f64 r],.int .i64 e])) W)→Calls prog 41 #[.agg #[.bool s.left.neg,.string s.left.n,.int .i64 s.left.e,.bool s.low.neg,.string s.low.n,.int .i64 s.low.e,.int .i64 s.e]] w PQ from key _ (fun e c1 c2 r W he h1 h2 h3 h4=>⟨c1,c2,r,h1,h2,h3,by rw[he],h4⟩)
 intro PQ hPQ;have HPQ:=qh hPQ;clear hPQ;unfold qah at hE;rw[hc]at hE;simp only at hE;generalize qbB s=M at *;generalize qaU M.1.re=P at *;generalize qaU M.1.im=Q at *;have hZ:=qjr P Q;have hZo:gsB (qbI P Q).1=true:=qiB P Q;obtain⟨F,hF⟩: ∃F,F=qd7 ⟨(qa3 P).1,(qa3 Q).1⟩ [⟨s.left,s.low⟩,⟨X,s.low⟩,⟨s.left,Y⟩,⟨X,Y⟩] zD:=⟨_,rfl⟩
 rw[←hF]at hE;have HC0:=qh (show M.2≠0→E=4 from fun h=>by rw[hE,if_neg h]);have HC1:=qh (show M.2=0→(qbI P Q).2≠0→E=5 from fun h h2=>by rw[hE,if_pos h,if_neg (fun h3=>h2 (hZ.1 h3))]);have HC2:=qh (show M.2=0→(qbI P Q).2=0→F=none→E=4 from fun h h2 h3=>by rw[hE,if_pos h,if_pos (hZ.2 h2).1,h3]);have HC3:=qh (show M.2=0→(qbI P Q).2=0→∀n,F=some n→qa7 n qbF=false→E=5 from fun h h2 n h3 h4=>by rw[hE,if_pos h,if_pos (hZ.2 h2).1,h3];simp only;rw[h4];rfl);have HC4:=qh (show M.2=0→(qbI P Q).2=0→∀n,F=some n→qa7 n qbF=true→E=0 from fun h h2 n h3 h4=>by rw[hE,if_pos h,if_pos (hZ.2 h2).1,h3];simp only;rw[h4];rfl);have HFZ:=qh (show(qbI P Q).2=0→F=qd7 (qbI P Q).1 [⟨s.left,s.low⟩,⟨X,s.low⟩,⟨s.left,Y⟩,⟨X,Y⟩] zD from fun h=>by rw[hF,(hZ.2 h).2]);clear hE hZ hF;generalize qbI P Q=Z at *;obtain⟨⟨a0,a1,a2⟩,⟨a3,a4,a5⟩,a6⟩:=s;obtain⟨x0,x1,x2⟩:=X;obtain⟨y0,y1,y2⟩:=Y;obtain⟨⟨⟨m0,m1,m2⟩,⟨m3,m4,m5⟩⟩,m6⟩:=M;obtain⟨⟨⟨z0,z1,z2⟩,⟨z3,z4,z5⟩⟩,z6⟩:=Z;simp only at CO MID HM NEAR CPX HC0 HC1 HC2 HC3 HC4 HFZ hZo hs1 hs2⊢;have hm:m6=0∨m6=4:=HM.imp id (fun h=>(Prod.mk.inj h).2);have HO:=qh (And.intro hs1 (And.intro hs2 (And.intro hX hY)));clear hs hc HM hMo hs1 hs2 hX hY;go_enter func41,ntmps41
 go_upto_region 1 with fail
 obtain⟨b,w1,hw,hb,B0,B1,K1,HB⟩:=qa6 w (LC3 a0 a1 a2 a3 a4 a5 a6) 26 [.complex .f64 0 0,.float .f64 0] 85;rw[←hw,←hb];clear hw hb;obtain⟨c0,c1,c2,c3,c4,c5,c6⟩:=B0.out.c7;clear c0 c1 c2 c3 c4 c5 c6;refine wp_region_list ?_;refine wpList_plain rfl fun K hK=>qag (b:=b) (n:=7) _ rfl rfl B0.out rfl underlying26 rfl (by kernel_rfl) (hK _ _ ?_);clear hK K;refine wpList_plain rfl fun K hK=>?_;go_step;(with_reducible refine(CO.out _).mono ?_);rintro e w3 ⟨rfl,hk3⟩
 refine hK _ _ ?_;clear hK K CO;refine wpList_plain rfl fun K hK=>BigFrame.wp_move _ rfl (hK _ _ ?_);clear hK K;refine wpList_plain rfl fun K hK=>?_;go_step;refine hK _ _ ?_;clear hK K;refine wpList_plain rfl fun K hK=>?_;go_step;refine hK _ _ ?_;clear hK K;refine wpList_plain rfl fun K hK=>?_;go_step;refine hK _ _ ?_;clear hK K;have HG:=qh (show w1.heap.size≤w3.heap.size from hk3.size);have K4:=qh (Kept.new hk3 (.cells ZL1.toArray 64));have B2:=qh (Bx.new w3 ZL1 64 w3.heap.size rfl);obtain⟨g,hg⟩: ∃g,g=w3.heap.size:=⟨_,rfl⟩
 rw[←hg]at B2 HG⊢;clear hg hk3;generalize World.alloc w3 _=w4 at *;refine wpList_plain rfl fun K hK=>qaa (b:=g) (n:=24) _ _ rfl rfl rfl B2.out rfl rfl (by kernel_rfl) rfl (hK _ _ ?_);clear hK K;replace B2:=qh (B2.out.row (LC4 a0 a1 a2 a3 a4 a5 x0 x1 x2 a3 a4 a5 a0 a1 a2 y0 y1 y2 x0 x1 x2 y0 y1 y2));replace K4:=qh (Kept.row K4.out HG.out (LC4 a0 a1 a2 a3 a4 a5 x0 x1 x2 a3 a4 a5 a0 a1 a2 y0 y1 y2 x0 x1 x2 y0 y1 y2));generalize World.setRow w4 _ _=w5 at *;refine wpList_plain rfl fun K hK=>?_;go_step;refine hK _ _ ?_;clear hK K;obtain⟨c0,c1,c2,c3,c4,c5,c6⟩:=(B0.out.kept K4.out).c7;go_upto_region 3 with (go_at_call 76;(with_reducible refine(MID.out _).mono ?_);rintro e w6 ⟨rfl,hk6⟩)
 have K7:=qh (Kept.new (K4.out.trans' hk6) (.cells (LC1 m0 m1 m2 m3 m4 m5).toArray 28));have B3:=qh (Bx.new w6 (LC1 m0 m1 m2 m3 m4 m5) 28 w6.heap.size rfl);replace B2:=qh ((B2.out.kept hk6).kept (Kept.new (Below.refl _ _) (.cells (LC1 m0 m1 m2 m3 m4 m5).toArray 28)));obtain⟨g2,hg⟩: ∃g,g=w6.heap.size:=⟨_,rfl⟩
 rw[←hg]at B3⊢;clear hg hk6;generalize(w6.alloc (.cells (LC1 m0 m1 m2 m3 m4 m5).toArray 28))=w7 at *;clear c0 c1 c2 c3 c4 c5 c6 MID;rcases hm with rfl|rfl;rotate_left
 ·have HE:=qh (show E=4 from by have h9:=HC0.out;simp at h9;exact h9)
  obtain⟨re0,re1⟩:(World.cell? _ ⟨b+1,0,none⟩=some (.complex .f64 0 0))∧(World.cell? _ ⟨b+1,1,none⟩=some (.float .f64 0)):=⟨(B1.out.kept K7.out).c 0 rfl,(B1.out.kept K7.out).c 1 rfl⟩
  obtain⟨rf0,rf1⟩:(World.frozen? _ ⟨b+1,0,none⟩=false)∧(World.frozen? _ ⟨b+1,1,none⟩=false):=⟨(B1.out.kept K7.out).f 0,(B1.out.kept K7.out).f 1⟩
  go_wp2_with fail
  exact bodyPost_ret (v:=.tuple #[.agg #[.complex .f64 0 0,.float .f64 0],.int .i64 4]) (by simp[results,results41,go_sem,re0,re1]) rfl (HPQ.out 4 0 0 0 _ HE.out.symm (by decide) (by decide) (by decide) (((K1.out.trans' K7.out).set (b:=b+1) (by have:=HB.out;omega) 0 _).set (b:=b+1) (by have:=HB.out;omega) 1 _))
 obtain⟨c0,c1,c2,c3,c4,c5⟩:=B3.out.c6;go_upto_region 6 with (go_at_call 77;(with_reducible refine(NEAR.out _).mono ?_);rintro e w8 ⟨rfl,hk8⟩)
 have K8:=qh (K7.out.trans' hk8);replace B2:=qh (B2.out.kept hk8);clear hk8 NEAR B3 c0 c1 c2 c3 c4 c5;go_upto_region 7 with (go_at_call 78;(with_reducible refine(CPX.out _).mono ?_);rintro e w9 ⟨rfl,hk9⟩)
 have K10:=qh (Kept.new (K8.out.trans' hk9) (.cells (LC1 z0 z1 z2 z3 z4 z5).toArray 28));have B4:=qh (Bx.new w9 (LC1 z0 z1 z2 z3 z4 z5) 28 w9.heap.size rfl);replace B2:=qh ((B2.out.kept hk9).kept (Kept.new (Below.refl _ _) (.cells (LC1 z0 z1 z2 z3 z4 z5).toArray 28)));obtain⟨g3,hg⟩: ∃g,g=w9.heap.size:=⟨_,rfl⟩
 rw[←hg]at B4⊢;clear hg hk9;generalize(w9.alloc (.cells (LC1 z0 z1 z2 z3 z4 z5).toArray 28))=w10 at *;clear CPX;by_cases hz:z6=0;rotate_left
 ·have HE:=qh (show E=5 from by have h9:=HC1.out;simp at h9;exact h9 hz)
  obtain⟨re0,re1⟩:(World.cell? _ ⟨b+1,0,none⟩=some (.complex .f64 0 0))∧(World.cell? _ ⟨b+1,1,none⟩=some (.float .f64 0)):=⟨(B1.out.kept K10.out).c 0 rfl,(B1.out.kept K10.out).c 1 rfl⟩
  obtain⟨rf0,rf1⟩:(World.frozen? _ ⟨b+1,0,none⟩=false)∧(World.frozen? _ ⟨b+1,1,none⟩=false):=⟨(B1.out.kept K10.out).f 0,(B1.out.kept K10.out).f 1⟩
  go_wp2_with fail
  exact bodyPost_ret (v:=.tuple #[.agg #[.complex .f64 0 0,.float .f64 0],.int .i64 5]) (by simp[results,results41,go_sem,re0,re1]) rfl (HPQ.out 5 0 0 0 _ HE.out.symm (by decide) (by decide) (by decide) (((K1.out.trans' K10.out).set (b:=b+1) (by have:=HB.out;omega) 0 _).set (b:=b+1) (by have:=HB.out;omega) 1 _))
 subst hz;have HF:=qh (show F=qd7 ⟨⟨z0,z1,z2⟩,⟨z3,z4,z5⟩⟩ [⟨⟨a0,a1,a2⟩,⟨a3,a4,a5⟩⟩,⟨⟨x0,x1,x2⟩,⟨a3,a4,a5⟩⟩,⟨⟨a0,a1,a2⟩,⟨y0,y1,y2⟩⟩,⟨⟨x0,x1,x2⟩,⟨y0,y1,y2⟩⟩] zD from by first|exact HFZ.out|exact HFZ.out rfl);clear HFZ HC0 HC1;go_upto_region 11 with fail
 have KB:=qh (Kept.new (Below.refl _ w10) (.cells (LC0 false ⟨#[]⟩ 0).toArray 24));have B5:=qh (Bx.new w10 (LC0 false ⟨#[]⟩ 0) 24 w10.heap.size rfl);obtain⟨q,hq⟩: ∃g,g=w10.heap.size:=⟨_,rfl⟩
 rw[←hq]at B5⊢;have HQ:=qh (show w1.heap.size≤q by have:=K10.out.size;omega);have HGQ:=qh (show g≠q∧g3≠q by have:=B2.out.lt;have:=B4.out.lt;omega);clear hq;generalize(w10.alloc (.cells (LC0 false ⟨#[]⟩ 0).toArray 24))=w11 at *;obtain⟨L,hL⟩: ∃L:List GsD,L=[⟨⟨a0,a1,a2⟩,⟨a3,a4,a5⟩⟩,⟨⟨x0,x1,x2⟩,⟨a3,a4,a5⟩⟩,⟨⟨a0,a1,a2⟩,⟨y0,y1,y2⟩⟩,⟨⟨x0,x1,x2⟩,⟨y0,y1,y2⟩⟩]:=⟨_,rfl⟩
 rw[←hL]at HF;obtain⟨hs1,hs2,hX,hY⟩:=HO.out
 have CK:Hid (∀k,k<4→∃G:GsD,gsB G=true∧L.drop k=G::L.drop (k+1)∧∀W,Bx W g (LC4 a0 a1 a2 a3 a4 a5 x0 x1 x2 a3 a4 a5 a0 a1 a2 y0 y1 y2 x0 x1 x2 y0 y1 y2)→W.cell? ⟨g,k*6,none⟩=some (.bool G.re.neg)∧W.cell? ⟨g,k*6+1,none⟩=some (.string G.re.n)∧W.cell? ⟨g,k*6+2,none⟩=some (.int .i64 G.re.e)∧W.cell? ⟨g,k*6+3,none⟩=some (.bool G.im.neg)∧W.cell? ⟨g,k*6+4,none⟩=some (.string G.im.n)∧W.cell? ⟨g,k*6+5,none⟩=some (.int .i64 G.im.e)):=by
  intro k hk;rw[hL];rcases(show k=0∨k=1∨k=2∨k=3 by omega)with rfl|rfl|rfl|rfl
  ·exact⟨_,qan.2 ⟨hs1,hs2⟩,rfl,fun W h=>⟨h.c 0 rfl,h.c 1 rfl,h.c 2 rfl,h.c 3 rfl,h.c 4 rfl,h.c 5 rfl⟩⟩
  ·exact⟨_,qan.2 ⟨hX,hs2⟩,rfl,fun W h=>⟨h.c 6 rfl,h.c 7 rfl,h.c 8 rfl,h.c 9 rfl,h.c 10 rfl,h.c 11 rfl⟩⟩
  ·exact⟨_,qan.2 ⟨hs1,hY⟩,rfl,fun W h=>⟨h.c 12 rfl,h.c 13 rfl,h.c 14 rfl,h.c 15 rfl,h.c 16 rfl,h.c 17 rfl⟩⟩
  ·exact⟨_,qan.2 ⟨hX,hY⟩,rfl,fun W h=>⟨h.c 18 rfl,h.c 19 rfl,h.c 20 rfl,h.c 21 rfl,h.c 22 rfl,h.c 23 rfl⟩⟩
 have HL4:=qh (show L.drop 4=[] by rw[hL];rfl);clear hL hs1 hs2 hX hY HO;have HZO:=qh hZo;clear hZo;replace B2:=qh (B2.out.kept KB.out);replace B4:=qh (B4.out.kept KB.out);replace KB:=qh (K10.out.trans' KB.out);clear K10;go_wp2_with fail
 go_loopg [11,12,13,14,15] 4 (fun gh v11 v12 v13 v14 v15 wr=> ∃(k:Nat) (m:DyD),k+gh=4∧v11=.int .i64 (k:Int)∧qae m=true∧0≤m.num∧qd7 ⟨⟨z0,z1,z2⟩,⟨z3,z4,z5⟩⟩ (L.drop k) m=F∧Bx wr q (LC0 m.neg m.n m.e)∧Bx wr g (LC4 a0 a1 a2 a3 a4 a5 x0 x1 x2 a3 a4 a5 a0 a1 a2 y0 y1 y2 x0 x1 x2 y0 y1 y2)∧Bx wr g3 (LC1 z0 z1 z2 z3 z4 z5)∧Kept w1 wr)
 case atStart=>exact⟨0,zD,by omega,rfl,rfl,Int.le_refl _,HF.out.symm,B5.out,B2.out,B4.out,KB.out⟩
 case round=>
  clear B2 B4 B5 KB HF;obtain⟨k,m,hkg,rfl,hm,hm0,hF,b5,b2,b4,hk⟩:=hrel;have HM0:=qh hm0;have HFF:=qh hF;have HMO:=qh hm;have B5:=qh b5;have B2:=qh b2;have B4:=qh b4;have KR:=qh hk;have hqw:=b5.lt;clear hF hm hm0 b5 b2 b4 hk;cases gk with
  |zero=>
   obtain rfl:k=4:=by omega
   have HFN:=qh (show F=some m by rw[←HFF.out,HL4.out];rfl);have HE5:=qh (show qa7 m qbF=false→E=5 from fun h=>by have h9:=HC3.out;simp at h9;exact h9 m HFN.out h);have HE0:=qh (show qa7 m qbF=true→E=0 from fun h=>by have h9:=HC4.out;simp at h9;exact h9 m HFN.out h);have EN:=qh (fun(x:Nat) W (hx:x<18446744073709551616)=>qjj m x W HMO.out hx);have NR:=qh (fun W=>qf7 m W HMO.out);obtain⟨sr,hsr⟩:=qm (qmf HMO.out HM0.out);have SQ:=qh (fun W=>qnq (qaU m) sr hsr W);generalize qaU m=nr at *;generalize qa7 m=f at *;obtain⟨m0,m1,m2⟩:=m;simp only at EN NR;have EN0:Hid (∀W,Calls prog 83 #[.agg #[.bool m0,.string m1,.int .i64 m2],.int .u64 9218868437227405311] W fun en w'=>en=.returned (.bool (f qbF))∧Kept W w'):=fun W=>EN.out qbF W (by decide);clear HFN HC2 HC3 HC4 HFF HMO HM0 hsr CK HL4 B2 B4 HZO;obtain⟨c0,c1,c2⟩:=B5.out.c3;cases hr:f qbF with
   |false=>
    have HE:=qh (HE5.out hr);rw[hr]at EN0;go_upto_region 21 with (go_at_call 83;(with_reducible refine(EN0.out _).mono ?_);rintro e w14 ⟨rfl,hk14⟩)
    have K15:=qh (KR.out.trans' hk14);clear hk14 c0 c1 c2 KR;obtain⟨re0,re1⟩:(World.cell? _ ⟨b+1,0,none⟩=some (.complex .f64 0 0))∧(World.cell? _ ⟨b+1,1,none⟩=some (.float .f64 0)):=⟨(B1.out.kept K15.out).c 0 rfl,(B1.out.kept K15.out).c 1 rfl⟩
    obtain⟨rf0,rf1⟩:(World.frozen? _ ⟨b+1,0,none⟩=false)∧(World.frozen? _ ⟨b+1,1,none⟩=false):=⟨(B1.out.kept K15.out).f 0,(B1.out.kept K15.out).f 1⟩
    go_wp2_with fail
    exact bodyPost_ret (v:=.tuple #[.agg #[.complex .f64 0 0,.float .f64 0],.int .i64 5]) (by simp[results,results41,go_sem,re0,re1]) rfl (HPQ.out 5 0 0 0 _ HE.out.symm (by decide) (by decide) (by decide) (((K1.out.trans' K15.out).set (b:=b+1) (by have:=HB.out;omega) 0 _).set (b:=b+1) (by have:=HB.out;omega) 1 _))
   |true=>
    have HE:=qh (HE0.out hr);rw[hr]at EN0;go_upto_region 23 with (go_at_call 83;(with_reducible refine(EN0.out _).mono ?_);rintro e w14 ⟨rfl,hk14⟩;replace B5:=qh (B5.out.kept hk14);replace KR:=qh (KR.out.trans' hk14);clear hk14)
    clear c0 c1 c2 EN0 HE0 HE5;obtain⟨c0,c1,c2⟩:=B5.out.c3
    go_upto_region 24 with (first
     |(go_at_call 85;(with_reducible refine(NR.out _).mono ?_);rintro e w15 ⟨rfl,hk15⟩;replace B5:=qh (B5.out.kept hk15);replace KR:=qh (KR.out.trans' hk15);clear hk15 c0 c1 c2)
     |(go_at_call 84;(with_reducible refine(SQ.out _).mono ?_);rintro e w16 ⟨rfl,hw⟩;replace hw:=hw.symm;subst hw))
    clear NR SQ;obtain⟨c0,c1,c2⟩:=B5.out.c3;by_cases s1:8<sr;rotate_left
    ·have i1: ¬(8:Int)<sr:=by omega
     go_upto_region 26 with fail
     go_wp2_with fail
     go_loopg [17,18,20] (qbF-0-1) (fun gh v17 v18 v20 wr=> ∃lo hi:Nat,v17=.int .u64 (lo:Int)∧v18=.int .u64 (hi:Int)∧lo+gh+1=hi∧hi<9223372036854775808∧Bx wr q (LC0 m0 m1 m2)∧Kept w1 wr)
     case atStart=>exact⟨0,qbF,by first|rfl|(congr 1;omega),by first|rfl|(congr 1;omega),by first|decide|omega,by first|decide|omega,B5.out,KR.out⟩
     case round=>
      clear B5 KR c0 c1 c2;obtain⟨lo,hi,rfl,rfl,hgap,hhi,b5,kr⟩:=hrel;have B5:=qh b5;have KR:=qh kr;clear b5 kr;obtain⟨D,hD⟩: ∃D:Nat,D=hi-lo:=⟨_,rfl⟩
      have hDI:IntKind.u64.wrap ((hi:Int)-lo)=(D:Int):=by rw[IntKind.wrap_u64];omega
      have hDe:(hi:Int)-lo=(D:Int):=by omega
      have HD:=qh hD;cases gk with
      |zero=>
       have hD1:D=1:=by omega
       subst hD1;have HG:=qh hgap;clear hgap hD;obtain⟨re0,re1⟩:(World.cell? _ ⟨b+1,0,none⟩=some (.complex .f64 0 0))∧(World.cell? _ ⟨b+1,1,none⟩=some (.float .f64 0)):=⟨(B1.out.kept KR.out).c 0 rfl,(B1.out.kept KR.out).c 1 rfl⟩
       obtain⟨rf0,rf1⟩:(World.frozen? _ ⟨b+1,0,none⟩=false)∧(World.frozen? _ ⟨b+1,1,none⟩=false):=⟨(B1.out.kept KR.out).f 0,(B1.out.kept KR.out).f 1⟩
       go_wp2_with fail
       exact bodyPost_ret (v:=.tuple #[.agg #[.complex .f64 P Q,.float .f64 hi],.int .i64 0]) (by simp[results,results41,go_sem,re0,re1]) rfl (HPQ.out 0 P Q hi _ HE.out.symm hP hQ (by omega) (((K1.out.trans' KR.out).set (b:=b+1) (by have:=HB.out;omega) 0 _).set (b:=b+1) (by have:=HB.out;omega) 1 _))
      |succ gj=>
       obtain⟨h,hh⟩: ∃h:Nat,h=D / 2:=⟨_,rfl⟩
       have hhI:(D:Int) / 2=(h:Int):=by omega
       have hD2:(1:Int)<D:=by omega
       have hb:lo+h<9223372036854775808:=by omega
       have HH:=qh (show 1≤h∧h<D∧lo+D=hi∧D=gj+2 by omega);have ENM:Hid (∀W,Calls prog 83 #[.agg #[.bool m0,.string m1,.int .i64 m2],.int .u64 ((lo:Int)+h)] W fun en w'=>en=.returned (.bool (f (lo+h)))∧Kept W w'):=fun W=>EN.out (lo+h) W (by omega);clear hh hgap hD;obtain⟨c0,c1,c2⟩:=B5.out.c3;cases hf:f (lo+h)with
       |true=>
        rw[hf]at ENM;go_wp2_with (go_at_call 83;(with_reducible refine(ENM.out _).mono ?_);rintro e w18 ⟨rfl,hk18⟩;replace B5:=qh (B5.out.kept hk18);replace KR:=qh (KR.out.trans' hk18);clear hk18)
        go_roundg (h-1)
        case measure=>have:=HH.out;omega
        case rel=>exact⟨lo,lo+h,rfl,by first|rfl|(congr 1;omega),by have:=HH.out;omega,by omega,B5.out,KR.out⟩
       |false=>
        rw[hf]at ENM;go_wp2_with (go_at_call 83;(with_reducible refine(ENM.out _).mono ?_);rintro e w18 ⟨rfl,hk18⟩;replace B5:=qh (B5.out.kept hk18);replace KR:=qh (KR.out.trans' hk18);clear hk18)
        go_roundg (D-h-1)
        case measure=>have:=HH.out;omega
        case rel=>exact⟨lo+h,hi,by first|rfl|(congr 1;omega),rfl,by have:=HH.out;omega,by omega,B5.out,KR.out⟩
    have i1:(8:Int)<sr:=by omega
    by_cases s2:sr<9218868437227405303;rotate_left
    ·have i2: ¬(sr:Int)<9218868437227405303:=by omega
     go_upto_region 26 with fail
     go_wp2_with fail
     go_loopg [17,18,20] (qbF-0-1) (fun gh v17 v18 v20 wr=> ∃lo hi:Nat,v17=.int .u64 (lo:Int)∧v18=.int .u64 (hi:Int)∧lo+gh+1=hi∧hi<9223372036854775808∧Bx wr q (LC0 m0 m1 m2)∧Kept w1 wr)
     case atStart=>exact⟨0,qbF,by first|rfl|(congr 1;omega),by first|rfl|(congr 1;omega),by first|decide|omega,by first|decide|omega,B5.out,KR.out⟩
     case round=>
      clear B5 KR c0 c1 c2;obtain⟨lo,hi,rfl,rfl,hgap,hhi,b5,kr⟩:=hrel;have B5:=qh b5;have KR:=qh kr;clear b5 kr;obtain⟨D,hD⟩: ∃D:Nat,D=hi-lo:=⟨_,rfl⟩
      have hDI:IntKind.u64.wrap ((hi:Int)-lo)=(D:Int):=by rw[IntKind.wrap_u64];omega
      have hDe:(hi:Int)-lo=(D:Int):=by omega
      have HD:=qh hD;cases gk with
      |zero=>
       have hD1:D=1:=by omega
       subst hD1;have HG:=qh hgap;clear hgap hD;obtain⟨re0,re1⟩:(World.cell? _ ⟨b+1,0,none⟩=some (.complex .f64 0 0))∧(World.cell? _ ⟨b+1,1,none⟩=some (.float .f64 0)):=⟨(B1.out.kept KR.out).c 0 rfl,(B1.out.kept KR.out).c 1 rfl⟩
       obtain⟨rf0,rf1⟩:(World.frozen? _ ⟨b+1,0,none⟩=false)∧(World.frozen? _ ⟨b+1,1,none⟩=false):=⟨(B1.out.kept KR.out).f 0,(B1.out.kept KR.out).f 1⟩
       go_wp2_with fail
       exact bodyPost_ret (v:=.tuple #[.agg #[.complex .f64 P Q,.float .f64 hi],.int .i64 0]) (by simp[results,results41,go_sem,re0,re1]) rfl (HPQ.out 0 P Q hi _ HE.out.symm hP hQ (by omega) (((K1.out.trans' KR.out).set (b:=b+1) (by have:=HB.out;omega) 0 _).set (b:=b+1) (by have:=HB.out;omega) 1 _))
      |succ gj=>
       obtain⟨h,hh⟩: ∃h:Nat,h=D / 2:=⟨_,rfl⟩
       have hhI:(D:Int) / 2=(h:Int):=by omega
       have hD2:(1:Int)<D:=by omega
       have hb:lo+h<9223372036854775808:=by omega
       have HH:=qh (show 1≤h∧h<D∧lo+D=hi∧D=gj+2 by omega);have ENM:Hid (∀W,Calls prog 83 #[.agg #[.bool m0,.string m1,.int .i64 m2],.int .u64 ((lo:Int)+h)] W fun en w'=>en=.returned (.bool (f (lo+h)))∧Kept W w'):=fun W=>EN.out (lo+h) W (by omega);clear hh hgap hD;obtain⟨c0,c1,c2⟩:=B5.out.c3;cases hf:f (lo+h)with
       |true=>
        rw[hf]at ENM;go_wp2_with (go_at_call 83;(with_reducible refine(ENM.out _).mono ?_);rintro e w18 ⟨rfl,hk18⟩;replace B5:=qh (B5.out.kept hk18);replace KR:=qh (KR.out.trans' hk18);clear hk18)
        go_roundg (h-1)
        case measure=>have:=HH.out;omega
        case rel=>exact⟨lo,lo+h,rfl,by first|rfl|(congr 1;omega),by have:=HH.out;omega,by omega,B5.out,KR.out⟩
       |false=>
        rw[hf]at ENM;go_wp2_with (go_at_call 83;(with_reducible refine(ENM.out _).mono ?_);rintro e w18 ⟨rfl,hk18⟩;replace B5:=qh (B5.out.kept hk18);replace KR:=qh (KR.out.trans' hk18);clear hk18)
        go_roundg (D-h-1)
        case measure=>have:=HH.out;omega
        case rel=>exact⟨lo+h,hi,by first|rfl|(congr 1;omega),rfl,by have:=HH.out;omega,by omega,B5.out,KR.out⟩
    have i2:(sr:Int)<9218868437227405303:=by omega
    have EN1:Hid (∀W,Calls prog 83 #[.agg #[.bool m0,.string m1,.int .i64 m2],.int .u64 ((sr:Int)-8)] W fun en w'=>en=.returned (.bool (f (sr-8)))∧Kept W w'):=fun W=>by
     have:=EN.out (sr-8) W (by omega);rwa [show((sr-8:Nat):Int)=(sr:Int)-8 by omega]at this
    have EN2:Hid (∀W,Calls prog 83 #[.agg #[.bool m0,.string m1,.int .i64 m2],.int .u64 ((sr:Int)+8)] W fun en w'=>en=.returned (.bool (f (sr+8)))∧Kept W w'):=fun W=>EN.out (sr+8) W (by omega);cases h1:f (sr-8)with
    |true=>
     rw[h1]at EN1;go_wp2_with fail
     (with_reducible refine(EN1.out _).mono ?_)
     rintro e w17 ⟨rfl,hk17⟩;replace B5:=qh (B5.out.kept hk17);replace KR:=qh (KR.out.trans' hk17);clear hk17 c0 c1 c2 EN1;obtain⟨c0,c1,c2⟩:=B5.out.c3;go_upto_region 26 with fail
     go_wp2_with fail
     go_loopg [17,18,20] (qbF-0-1) (fun gh v17 v18 v20 wr=> ∃lo hi:Nat,v17=.int .u64 (lo:Int)∧v18=.int .u64 (hi:Int)∧lo+gh+1=hi∧hi<9223372036854775808∧Bx wr q (LC0 m0 m1 m2)∧Kept w1 wr)
     case atStart=>exact⟨0,qbF,by first|rfl|(congr 1;omega),by first|rfl|(congr 1;omega),by first|decide|omega,by first|decide|omega,B5.out,KR.out⟩
     case round=>
      clear B5 KR c0 c1 c2;obtain⟨lo,hi,rfl,rfl,hgap,hhi,b5,kr⟩:=hrel;have B5:=qh b5;have KR:=qh kr;clear b5 kr;obtain⟨D,hD⟩: ∃D:Nat,D=hi-lo:=⟨_,rfl⟩
      have hDI:IntKind.u64.wrap ((hi:Int)-lo)=(D:Int):=by rw[IntKind.wrap_u64];omega
      have hDe:(hi:Int)-lo=(D:Int):=by omega
      have HD:=qh hD;cases gk with
      |zero=>
       have hD1:D=1:=by omega
       subst hD1;have HG:=qh hgap;clear hgap hD;obtain⟨re0,re1⟩:(World.cell? _ ⟨b+1,0,none⟩=some (.complex .f64 0 0))∧(World.cell? _ ⟨b+1,1,none⟩=some (.float .f64 0)):=⟨(B1.out.kept KR.out).c 0 rfl,(B1.out.kept KR.out).c 1 rfl⟩
       obtain⟨rf0,rf1⟩:(World.frozen? _ ⟨b+1,0,none⟩=false)∧(World.frozen? _ ⟨b+1,1,none⟩=false):=⟨(B1.out.kept KR.out).f 0,(B1.out.kept KR.out).f 1⟩
       go_wp2_with fail
       exact bodyPost_ret (v:=.tuple #[.agg #[.complex .f64 P Q,.float .f64 hi],.int .i64 0]) (by simp[results,results41,go_sem,re0,re1]) rfl (HPQ.out 0 P Q hi _ HE.out.symm hP hQ (by omega) (((K1.out.trans' KR.out).set (b:=b+1) (by have:=HB.out;omega) 0 _).set (b:=b+1) (by have:=HB.out;omega) 1 _))
      |succ gj=>
       obtain⟨h,hh⟩: ∃h:Nat,h=D / 2:=⟨_,rfl⟩
       have hhI:(D:Int) / 2=(h:Int):=by omega
       have hD2:(1:Int)<D:=by omega
       have hb:lo+h<9223372036854775808:=by omega
       have HH:=qh (show 1≤h∧h<D∧lo+D=hi∧D=gj+2 by omega);have ENM:Hid (∀W,Calls prog 83 #[.agg #[.bool m0,.string m1,.int .i64 m2],.int .u64 ((lo:Int)+h)] W fun en w'=>en=.returned (.bool (f (lo+h)))∧Kept W w'):=fun W=>EN.out (lo+h) W (by omega);clear hh hgap hD;obtain⟨c0,c1,c2⟩:=B5.out.c3;cases hf:f (lo+h)with
       |true=>
        rw[hf]at ENM;go_wp2_with (go_at_call 83;(with_reducible refine(ENM.out _).mono ?_);rintro e w18 ⟨rfl,hk18⟩;replace B5:=qh (B5.out.kept hk18);replace KR:=qh (KR.out.trans' hk18);clear hk18)
        go_roundg (h-1)
        case measure=>have:=HH.out;omega
        case rel=>exact⟨lo,lo+h,rfl,by first|rfl|(congr 1;omega),by have:=HH.out;omega,by omega,B5.out,KR.out⟩
       |false=>
        rw[hf]at ENM;go_wp2_with (go_at_call 83;(with_reducible refine(ENM.out _).mono ?_);rintro e w18 ⟨rfl,hk18⟩;replace B5:=qh (B5.out.kept hk18);replace KR:=qh (KR.out.trans' hk18);clear hk18)
        go_roundg (D-h-1)
        case measure=>have:=HH.out;omega
        case rel=>exact⟨lo+h,hi,by first|rfl|(congr 1;omega),rfl,by have:=HH.out;omega,by omega,B5.out,KR.out⟩
    |false=>
     rw[h1]at EN1;go_wp2_with fail
     (with_reducible refine(EN1.out _).mono ?_)
     rintro e w17 ⟨rfl,hk17⟩;replace B5:=qh (B5.out.kept hk17);replace KR:=qh (KR.out.trans' hk17);clear hk17 c0 c1 c2 EN1;obtain⟨c0,c1,c2⟩:=B5.out.c3;cases h2:f (sr+8)with
     |false=>
      rw[h2]at EN2;go_wp2_with fail
      (with_reducible refine(EN2.out _).mono ?_)
      rintro e w17 ⟨rfl,hk17⟩;replace B5:=qh (B5.out.kept hk17);replace KR:=qh (KR.out.trans' hk17);clear hk17 c0 c1 c2 EN2;obtain⟨c0,c1,c2⟩:=B5.out.c3;go_upto_region 26 with fail
      go_wp2_with fail
      go_loopg [17,18,20] (qbF-0-1) (fun gh v17 v18 v20 wr=> ∃lo hi:Nat,v17=.int .u64 (lo:Int)∧v18=.int .u64 (hi:Int)∧lo+gh+1=hi∧hi<9223372036854775808∧Bx wr q (LC0 m0 m1 m2)∧Kept w1 wr)
      case atStart=>exact⟨0,qbF,by first|rfl|(congr 1;omega),by first|rfl|(congr 1;omega),by first|decide|omega,by first|decide|omega,B5.out,KR.out⟩
      case round=>
       clear B5 KR c0 c1 c2;obtain⟨lo,hi,rfl,rfl,hgap,hhi,b5,kr⟩:=hrel;have B5:=qh b5;have KR:=qh kr;clear b5 kr;obtain⟨D,hD⟩: ∃D:Nat,D=hi-lo:=⟨_,rfl⟩
       have hDI:IntKind.u64.wrap ((hi:Int)-lo)=(D:Int):=by rw[IntKind.wrap_u64];omega
       have hDe:(hi:Int)-lo=(D:Int):=by omega
       have HD:=qh hD;cases gk with
       |zero=>
        have hD1:D=1:=by omega
        subst hD1;have HG:=qh hgap;clear hgap hD;obtain⟨re0,re1⟩:(World.cell? _ ⟨b+1,0,none⟩=some (.complex .f64 0 0))∧(World.cell? _ ⟨b+1,1,none⟩=some (.float .f64 0)):=⟨(B1.out.kept KR.out).c 0 rfl,(B1.out.kept KR.out).c 1 rfl⟩
        obtain⟨rf0,rf1⟩:(World.frozen? _ ⟨b+1,0,none⟩=false)∧(World.frozen? _ ⟨b+1,1,none⟩=false):=⟨(B1.out.kept KR.out).f 0,(B1.out.kept KR.out).f 1⟩
        go_wp2_with fail
        exact bodyPost_ret (v:=.tuple #[.agg #[.complex .f64 P Q,.float .f64 hi],.int .i64 0]) (by simp[results,results41,go_sem,re0,re1]) rfl (HPQ.out 0 P Q hi _ HE.out.symm hP hQ (by omega) (((K1.out.trans' KR.out).set (b:=b+1) (by have:=HB.out;omega) 0 _).set (b:=b+1) (by have:=HB.out;omega) 1 _))
       |succ gj=>
        obtain⟨h,hh⟩: ∃h:Nat,h=D / 2:=⟨_,rfl⟩
        have hhI:(D:Int) / 2=(h:Int):=by omega
        have hD2:(1:Int)<D:=by omega
        have hb:lo+h<9223372036854775808:=by omega
        have HH:=qh (show 1≤h∧h<D∧lo+D=hi∧D=gj+2 by omega);have ENM:Hid (∀W,Calls prog 83 #[.agg #[.bool m0,.string m1,.int .i64 m2],.int .u64 ((lo:Int)+h)] W fun en w'=>en=.returned (.bool (f (lo+h)))∧Kept W w'):=fun W=>EN.out (lo+h) W (by omega);clear hh hgap hD;obtain⟨c0,c1,c2⟩:=B5.out.c3;cases hf:f (lo+h)with
        |true=>
         rw[hf]at ENM;go_wp2_with (go_at_call 83;(with_reducible refine(ENM.out _).mono ?_);rintro e w18 ⟨rfl,hk18⟩;replace B5:=qh (B5.out.kept hk18);replace KR:=qh (KR.out.trans' hk18);clear hk18)
         go_roundg (h-1)
         case measure=>have:=HH.out;omega
         case rel=>exact⟨lo,lo+h,rfl,by first|rfl|(congr 1;omega),by have:=HH.out;omega,by omega,B5.out,KR.out⟩
        |false=>
         rw[hf]at ENM;go_wp2_with (go_at_call 83;(with_reducible refine(ENM.out _).mono ?_);rintro e w18 ⟨rfl,hk18⟩;replace B5:=qh (B5.out.kept hk18);replace KR:=qh (KR.out.trans' hk18);clear hk18)
         go_roundg (D-h-1)
         case measure=>have:=HH.out;omega
         case rel=>exact⟨lo+h,hi,by first|rfl|(congr 1;omega),rfl,by have:=HH.out;omega,by omega,B5.out,KR.out⟩
     |true=>
      rw[h2]at EN2;go_wp2_with fail
      (with_reducible refine(EN2.out _).mono ?_)
      rintro e w17 ⟨rfl,hk17⟩;replace B5:=qh (B5.out.kept hk17);replace KR:=qh (KR.out.trans' hk17);clear hk17 c0 c1 c2 EN2;obtain⟨c0,c1,c2⟩:=B5.out.c3;go_upto_region 26 with fail
      go_wp2_with fail
      go_loopg [17,18,20] ((sr+8)-(sr-8)-1) (fun gh v17 v18 v20 wr=> ∃lo hi:Nat,v17=.int .u64 (lo:Int)∧v18=.int .u64 (hi:Int)∧lo+gh+1=hi∧hi<9223372036854775808∧Bx wr q (LC0 m0 m1 m2)∧Kept w1 wr)
      case atStart=>exact⟨(sr-8),(sr+8),by first|rfl|(congr 1;omega),by first|rfl|(congr 1;omega),by first|decide|omega,by first|decide|omega,B5.out,KR.out⟩
      case round=>
       clear B5 KR c0 c1 c2;obtain⟨lo,hi,rfl,rfl,hgap,hhi,b5,kr⟩:=hrel;have B5:=qh b5;have KR:=qh kr;clear b5 kr;obtain⟨D,hD⟩: ∃D:Nat,D=hi-lo:=⟨_,rfl⟩
       have hDI:IntKind.u64.wrap ((hi:Int)-lo)=(D:Int):=by rw[IntKind.wrap_u64];omega
       have hDe:(hi:Int)-lo=(D:Int):=by omega
       have HD:=qh hD;cases gk with
       |zero=>
        have hD1:D=1:=by omega
        subst hD1;have HG:=qh hgap;clear hgap hD;obtain⟨re0,re1⟩:(World.cell? _ ⟨b+1,0,none⟩=some (.complex .f64 0 0))∧(World.cell? _ ⟨b+1,1,none⟩=some (.float .f64 0)):=⟨(B1.out.kept KR.out).c 0 rfl,(B1.out.kept KR.out).c 1 rfl⟩
        obtain⟨rf0,rf1⟩:(World.frozen? _ ⟨b+1,0,none⟩=false)∧(World.frozen? _ ⟨b+1,1,none⟩=false):=⟨(B1.out.kept KR.out).f 0,(B1.out.kept KR.out).f 1⟩
        go_wp2_with fail
        exact bodyPost_ret (v:=.tuple #[.agg #[.complex .f64 P Q,.float .f64 hi],.int .i64 0]) (by simp[results,results41,go_sem,re0,re1]) rfl (HPQ.out 0 P Q hi _ HE.out.symm hP hQ (by omega) (((K1.out.trans' KR.out).set (b:=b+1) (by have:=HB.out;omega) 0 _).set (b:=b+1) (by have:=HB.out;omega) 1 _))
       |succ gj=>
        obtain⟨h,hh⟩: ∃h:Nat,h=D / 2:=⟨_,rfl⟩
        have hhI:(D:Int) / 2=(h:Int):=by omega
        have hD2:(1:Int)<D:=by omega
        have hb:lo+h<9223372036854775808:=by omega
        have HH:=qh (show 1≤h∧h<D∧lo+D=hi∧D=gj+2 by omega);have ENM:Hid (∀W,Calls prog 83 #[.agg #[.bool m0,.string m1,.int .i64 m2],.int .u64 ((lo:Int)+h)] W fun en w'=>en=.returned (.bool (f (lo+h)))∧Kept W w'):=fun W=>EN.out (lo+h) W (by omega);clear hh hgap hD;obtain⟨c0,c1,c2⟩:=B5.out.c3;cases hf:f (lo+h)with
        |true=>
         rw[hf]at ENM;go_wp2_with (go_at_call 83;(with_reducible refine(ENM.out _).mono ?_);rintro e w18 ⟨rfl,hk18⟩;replace B5:=qh (B5.out.kept hk18);replace KR:=qh (KR.out.trans' hk18);clear hk18)
         go_roundg (h-1)
         case measure=>have:=HH.out;omega
         case rel=>exact⟨lo,lo+h,rfl,by first|rfl|(congr 1;omega),by have:=HH.out;omega,by omega,B5.out,KR.out⟩
        |false=>
         rw[hf]at ENM;go_wp2_with (go_at_call 83;(with_reducible refine(ENM.out _).mono ?_);rintro e w18 ⟨rfl,hk18⟩;replace B5:=qh (B5.out.kept hk18);replace KR:=qh (KR.out.trans' hk18);clear hk18)
         go_roundg (D-h-1)
         case measure=>have:=HH.out;omega
         case rel=>exact⟨lo+h,hi,by first|rfl|(congr 1;omega),rfl,by have:=HH.out;omega,by omega,B5.out,KR.out⟩
  |succ gh=>
   obtain⟨G,hG,hdr,hcell⟩:=CK.out k (by omega);have SUB:=qh (fun W=>qh9 G ⟨⟨z0,z1,z2⟩,⟨z3,z4,z5⟩⟩ W hG HZO.out);have hS1:=qiA hG HZO.out;have HS:=qho G ⟨⟨z0,z1,z2⟩,⟨z3,z4,z5⟩⟩;have HFE:qd7 ⟨⟨z0,z1,z2⟩,⟨z3,z4,z5⟩⟩ (L.drop k) m=F:=HFF.out;rw[hdr]at HFE;unfold qd7 at HFE;generalize qeB G ⟨⟨z0,z1,z2⟩,⟨z3,z4,z5⟩⟩=S at *;have NRM:=qh (fun W=>qg6 S.1 W hS1);have hN1:=qg9 S.1;have hN0:=qh (qiy S.1);have HN:(qca S.1).2=0∨qca S.1=(zD,4):=qgT _ _;generalize qca S.1=N at *;have CMP:=qh (fun W=>qfJ m N.1 W HMO.out hN1);rw[qim m N.1]at HFE;generalize qdk m N.1=cc at *;have HFEE:=qh HFE;have HNO:=qh hN1;obtain⟨⟨t0,t1,t2⟩,⟨t3,t4,t5⟩⟩:=G;obtain⟨⟨⟨s0,s1,s2⟩,⟨s3,s4,s5⟩⟩,s6⟩:=S;obtain⟨⟨n0,n1,n2⟩,n3⟩:=N;obtain⟨m0,m1,m2⟩:=m;simp only at SUB NRM CMP HFEE HNO HMO HM0 hN0 HS HN hcell;have hs6:s6=0∨s6=4:=HS.imp id (fun h=>(Prod.mk.inj h).2);have hn3:n3=0∨n3=4:=HN.imp id (fun h=>(Prod.mk.inj h).2);have SK:Hid (∀W,Kept wr W→(W.cell? ⟨g,k*6,none⟩=some (.bool t0)∧W.cell? ⟨g,k*6+1,none⟩=some (.string t1)∧W.cell? ⟨g,k*6+2,none⟩=some (.int .i64 t2)∧W.cell? ⟨g,k*6+3,none⟩=some (.bool t3)∧W.cell? ⟨g,k*6+4,none⟩=some (.string t4)∧W.cell? ⟨g,k*6+5,none⟩=some (.int .i64 t5))∧W.cell? ⟨g3,0,none⟩=some (.bool z0)∧W.cell? ⟨g3,1,none⟩=some (.string z1)∧W.cell? ⟨g3,2,none⟩=some (.int .i64 z2)∧W.cell? ⟨g3,3,none⟩=some (.bool z3)∧W.cell? ⟨g3,4,none⟩=some (.string z4)∧W.cell? ⟨g3,5,none⟩=some (.int .i64 z5)):=fun W h=>⟨hcell W (B2.out.kept h),(B4.out.kept h).c6⟩
   clear HFE HS HN hS1 hN1 hcell hdr hG HFF;have hkI:(k:Int)<4:=by omega
   go_wp2_with fail
   go_cut [12,13]from 52 to 59 (fun v12 v13 wy=> ∃gs:Nat,v12=.pointer (some ⟨gs,0,none⟩)∧v13=.int .i64 s6∧Bx wy gs (LC1 s0 s1 s2 s3 s4 s5)∧Kept wr wy)
   case first=>
    have hS0:=SK.out _ (Below.refl _ wr).drew;have KR:Hid (∀o,((World.drew (World.alloc wr o)).cell? ⟨g,k*6,none⟩=some (.bool t0)∧(World.drew (World.alloc wr o)).cell? ⟨g,k*6+1,none⟩=some (.string t1)∧(World.drew (World.alloc wr o)).cell? ⟨g,k*6+2,none⟩=some (.int .i64 t2)∧(World.drew (World.alloc wr o)).cell? ⟨g,k*6+3,none⟩=some (.bool t3)∧(World.drew (World.alloc wr o)).cell? ⟨g,k*6+4,none⟩=some (.string t4)∧(World.drew (World.alloc wr o)).cell? ⟨g,k*6+5,none⟩=some (.int .i64 t5))∧(World.drew (World.alloc wr o)).cell? ⟨g3,0,none⟩=some (.bool z0)∧(World.drew (World.alloc wr o)).cell? ⟨g3,1,none⟩=some (.string z1)∧(World.drew (World.alloc wr o)).cell? ⟨g3,2,none⟩=some (.int .i64 z2)∧(World.drew (World.alloc wr o)).cell? ⟨g3,3,none⟩=some (.bool z3)∧(World.drew (World.alloc wr o)).cell? ⟨g3,4,none⟩=some (.string z4)∧(World.drew (World.alloc wr o)).cell? ⟨g3,5,none⟩=some (.int .i64 z5)):=qh (fun o=>SK.out _ ((Kept.new (Below.refl _ wr) o).drew'));refine qac (fun W=>(W.cell? ⟨g,k*6,none⟩=some (.bool t0)∧W.cell? ⟨g,k*6+1,none⟩=some (.string t1)∧W.cell? ⟨g,k*6+2,none⟩=some (.int .i64 t2)∧W.cell? ⟨g,k*6+3,none⟩=some (.bool t3)∧W.cell? ⟨g,k*6+4,none⟩=some (.string t4)∧W.cell? ⟨g,k*6+5,none⟩=some (.int .i64 t5))∧W.cell? ⟨g3,0,none⟩=some (.bool z0)∧W.cell? ⟨g3,1,none⟩=some (.string z1)∧W.cell? ⟨g3,2,none⟩=some (.int .i64 z2)∧W.cell? ⟨g3,3,none⟩=some (.bool z3)∧W.cell? ⟨g3,4,none⟩=some (.string z4)∧W.cell? ⟨g3,5,none⟩=some (.int .i64 z5)) [10] (by kernel_rfl) ?_ (fun hHeld=>?_)
    ·first|with_reducible assumption|with_reducible exact KA.out _|with_reducible exact KR.out _|with_reducible exact KC.out _ _ _ _ _ _
    refine wS 0 53 ?_;refine wS 1 54 ?_;refine wS 2 55 ?_;refine wS 3 56 ?_;refine tS 4 8 (fun K hK=>?_) (fun K hK=>?_)
    ·skip
     go_simp;(refine(SUB.out _).mono ?_;rintro e w13 ⟨rfl,hk13⟩;have K3:=qh (show Kept wr w13 from(Below.refl _ wr).drew.trans (hk13.mono (Nat.le_refl _)));have hS3:=SK.out _ K3.out;have KA:Hid (∀o,((World.alloc w13 o).cell? ⟨g,k*6,none⟩=some (.bool t0)∧(World.alloc w13 o).cell? ⟨g,k*6+1,none⟩=some (.string t1)∧(World.alloc w13 o).cell? ⟨g,k*6+2,none⟩=some (.int .i64 t2)∧(World.alloc w13 o).cell? ⟨g,k*6+3,none⟩=some (.bool t3)∧(World.alloc w13 o).cell? ⟨g,k*6+4,none⟩=some (.string t4)∧(World.alloc w13 o).cell? ⟨g,k*6+5,none⟩=some (.int .i64 t5))∧(World.alloc w13 o).cell? ⟨g3,0,none⟩=some (.bool z0)∧(World.alloc w13 o).cell? ⟨g3,1,none⟩=some (.string z1)∧(World.alloc w13 o).cell? ⟨g3,2,none⟩=some (.int .i64 z2)∧(World.alloc w13 o).cell? ⟨g3,3,none⟩=some (.bool z3)∧(World.alloc w13 o).cell? ⟨g3,4,none⟩=some (.string z4)∧(World.alloc w13 o).cell? ⟨g3,5,none⟩=some (.int .i64 z5)):=qh (fun o=>SK.out _ (Kept.new K3.out o));clear hk13)
     refine hK.out _ _ ?_ (fun hHeld=>?_)
     ·first|with_reducible assumption|with_reducible exact KA.out _|with_reducible exact KR.out _|with_reducible exact KC.out _ _ _ _ _ _
     clear hK K;try simp only[Act.put,tdy]
     refine wS 5 52 ?_;refine wS 6 58 ?_;refine wS 7 59 ?_;refine oS 8 fun K hK=>?_;go_simp;refine hK.out _ _ ?_ (fun hHeld=>?_)
     ·first|with_reducible assumption|with_reducible exact KA.out _|with_reducible exact KR.out _|with_reducible exact KC.out _ _ _ _ _ _
     clear hK K;try simp only[Act.put,tdy]
     refine oS 9 fun K hK=>?_;go_simp;refine hK.out _ _ ?_ (fun hHeld=>?_)
     ·first|with_reducible assumption|with_reducible exact KA.out _|with_reducible exact KR.out _|with_reducible exact KC.out _ _ _ _ _ _
     clear hK K;try simp only[Act.put,tdy]
     refine eS 10 fun K hK=>?_;go_simp;refine hK.out _ _ ?_;clear hK K;try simp only[Act.put,tdy]
     refine dS ?_ _;go_wp2_with fail
     go_meet
     exact⟨w13.heap.size,rfl,rfl,Bx.new w13 (LC1 s0 s1 s2 s3 s4 s5) 28 w13.heap.size rfl,Kept.new K3.out _⟩
    ·skip
     go_simp;refine hK.out _ _ ?_ (fun hHeld=>?_)
     ·first|with_reducible assumption|with_reducible exact KA.out _|with_reducible exact KR.out _|with_reducible exact KC.out _ _ _ _ _ _
     clear hK K;try simp only[Act.put,tdy]
     refine oS 4 fun K hK=>?_;go_simp
     (refine(SUB.out _).mono ?_;rintro e w13 ⟨rfl,hk13⟩;have K3:=qh (show Kept wr w13 from((Kept.new (Below.refl _ wr) (.cells ZL0.toArray 28)).drew').trans' hk13);have hS3:=SK.out _ K3.out;have KC:Hid (∀v0 v1 v2 v3 v4 v5,(((((((w13.setCell ⟨wr.heap.size,0,none⟩ v0).setCell ⟨wr.heap.size,1,none⟩ v1).setCell ⟨wr.heap.size,2,none⟩ v2).setCell ⟨wr.heap.size,3,none⟩ v3).setCell ⟨wr.heap.size,4,none⟩ v4).setCell ⟨wr.heap.size,5,none⟩ v5).cell? ⟨g,k*6,none⟩=some (.bool t0)∧((((((w13.setCell ⟨wr.heap.size,0,none⟩ v0).setCell ⟨wr.heap.size,1,none⟩ v1).setCell ⟨wr.heap.size,2,none⟩ v2).setCell ⟨wr.heap.size,3,none⟩ v3).setCell ⟨wr.heap.size,4,none⟩ v4).setCell ⟨wr.heap.size,5,none⟩ v5).cell? ⟨g,k*6+1,none⟩=some (.string t1)∧((((((w13.setCell ⟨wr.heap.size,0,none⟩ v0).setCell ⟨wr.heap.size,1,none⟩ v1).setCell ⟨wr.heap.size,2,none⟩ v2).setCell ⟨wr.heap.size,3,none⟩ v3).setCell ⟨wr.heap.size,4,none⟩ v4).setCell ⟨wr.heap.size,5,none⟩ v5).cell? ⟨g,k*6+2,none⟩=some (.int .i64 t2)∧((((((w13.setCell ⟨wr.heap.size,0,none⟩ v0).setCell ⟨wr.heap.size,1,none⟩ v1).setCell ⟨wr.heap.size,2,none⟩ v2).setCell ⟨wr.heap.size,3,none⟩ v3).setCell ⟨wr.heap.size,4,none⟩ v4).setCell ⟨wr.heap.size,5,none⟩ v5).cell? ⟨g,k*6+3,none⟩=some (.bool t3)∧((((((w13.setCell ⟨wr.heap.size,0,none⟩ v0).setCell ⟨wr.heap.size,1,none⟩ v1).setCell ⟨wr.heap.size,2,none⟩ v2).setCell ⟨wr.heap.size,3,none⟩ v3).setCell ⟨wr.heap.size,4,none⟩ v4).setCell ⟨wr.heap.size,5,none⟩ v5).cell? ⟨g,k*6+4,none⟩=some (.string t4)∧((((((w13.setCell ⟨wr.heap.size,0,none⟩ v0).setCell ⟨wr.heap.size,1,none⟩ v1).setCell ⟨wr.heap.size,2,none⟩ v2).setCell ⟨wr.heap.size,3,none⟩ v3).setCell ⟨wr.heap.size,4,none⟩ v4).setCell ⟨wr.heap.size,5,none⟩ v5).cell? ⟨g,k*6+5,none⟩=some (.int .i64 t5))∧((((((w13.setCell ⟨wr.heap.size,0,none⟩ v0).setCell ⟨wr.heap.size,1,none⟩ v1).setCell ⟨wr.heap.size,2,none⟩ v2).setCell ⟨wr.heap.size,3,none⟩ v3).setCell ⟨wr.heap.size,4,none⟩ v4).setCell ⟨wr.heap.size,5,none⟩ v5).cell? ⟨g3,0,none⟩=some (.bool z0)∧((((((w13.setCell ⟨wr.heap.size,0,none⟩ v0).setCell ⟨wr.heap.size,1,none⟩ v1).setCell ⟨wr.heap.size,2,none⟩ v2).setCell ⟨wr.heap.size,3,none⟩ v3).setCell ⟨wr.heap.size,4,none⟩ v4).setCell ⟨wr.heap.size,5,none⟩ v5).cell? ⟨g3,1,none⟩=some (.string z1)∧((((((w13.setCell ⟨wr.heap.size,0,none⟩ v0).setCell ⟨wr.heap.size,1,none⟩ v1).setCell ⟨wr.heap.size,2,none⟩ v2).setCell ⟨wr.heap.size,3,none⟩ v3).setCell ⟨wr.heap.size,4,none⟩ v4).setCell ⟨wr.heap.size,5,none⟩ v5).cell? ⟨g3,2,none⟩=some (.int .i64 z2)∧((((((w13.setCell ⟨wr.heap.size,0,none⟩ v0).setCell ⟨wr.heap.size,1,none⟩ v1).setCell ⟨wr.heap.size,2,none⟩ v2).setCell ⟨wr.heap.size,3,none⟩ v3).setCell ⟨wr.heap.size,4,none⟩ v4).setCell ⟨wr.heap.size,5,none⟩ v5).cell? ⟨g3,3,none⟩=some (.bool z3)∧((((((w13.setCell ⟨wr.heap.size,0,none⟩ v0).setCell ⟨wr.heap.size,1,none⟩ v1).setCell ⟨wr.heap.size,2,none⟩ v2).setCell ⟨wr.heap.size,3,none⟩ v3).setCell ⟨wr.heap.size,4,none⟩ v4).setCell ⟨wr.heap.size,5,none⟩ v5).cell? ⟨g3,4,none⟩=some (.string z4)∧((((((w13.setCell ⟨wr.heap.size,0,none⟩ v0).setCell ⟨wr.heap.size,1,none⟩ v1).setCell ⟨wr.heap.size,2,none⟩ v2).setCell ⟨wr.heap.size,3,none⟩ v3).setCell ⟨wr.heap.size,4,none⟩ v4).setCell ⟨wr.heap.size,5,none⟩ v5).cell? ⟨g3,5,none⟩=some (.int .i64 z5)):=qh (fun v0 v1 v2 v3 v4 v5=>SK.out _ (K3.out.qde (Nat.le_refl _) v0 v1 v2 v3 v4 v5));have BX:=qh ((Bx.new wr ZL0 28 wr.heap.size rfl).kept ((Below.refl _ (World.alloc wr (.cells ZL0.toArray 28))).drew.trans (hk13.mono (Nat.le_refl _))));clear hk13)
     refine hK.out _ _ ?_ (fun hHeld=>?_)
     ·first|with_reducible assumption|with_reducible exact KA.out _|with_reducible exact KR.out _|with_reducible exact KC.out _ _ _ _ _ _
     clear hK K;try simp only[Act.put,tdy]
     refine wS 5 52 ?_;refine wS 6 58 ?_;refine wS 7 59 ?_;obtain⟨e0,e1,e2,e3,e4,e5⟩:=BX.out.c6;obtain⟨f0,f1,f2,f3,f4,f5⟩:=BX.out.f6;refine oS 9 fun K hK=>?_;go_simp;refine hK.out _ _ ?_ (fun hHeld=>?_)
     ·first|with_reducible assumption|with_reducible exact KA.out _|with_reducible exact KR.out _|with_reducible exact KC.out _ _ _ _ _ _
     clear hK K;try simp only[Act.put,tdy]
     refine eS 10 fun K hK=>?_;go_simp;refine hK.out _ _ ?_;clear hK K;try simp only[Act.put,tdy]
     refine dS ?_ _;go_wp2_with fail
     go_meet
     exact⟨wr.heap.size,rfl,rfl,((((((BX.out.set 0 _ (by simp)).set 1 _ (by simp)).set 2 _ (by simp)).set 3 _ (by simp)).set 4 _ (by simp)).set 5 _ (by simp)),K3.out.qde (Nat.le_refl _) _ _ _ _ _ _⟩
   case rest=>
   obtain⟨gs,rfl,rfl,bs,kw⟩:=hcut;have BS:=qh bs;have KW:=qh (KR.out.trans' kw);replace B2:=qh (B2.out.kept kw);replace B4:=qh (B4.out.kept kw);replace B5:=qh (B5.out.kept kw);clear bs kw SK SUB KR;obtain⟨c0,c1,c2,c3,c4,c5⟩:=BS.out.c6;go_upto_region 15 with (go_at_call 80;(with_reducible refine(NRM.out _).mono ?_);rintro e w14 ⟨rfl,hk14⟩)
   have K15:=qh (Kept.new (KW.out.trans' hk14) (.cells (LC0 n0 n1 n2).toArray 24));have BN:=qh (Bx.new w14 (LC0 n0 n1 n2) 24 w14.heap.size rfl);replace B2:=qh ((B2.out.kept hk14).kept (Kept.new (Below.refl _ _) (.cells (LC0 n0 n1 n2).toArray 24)));replace B4:=qh ((B4.out.kept hk14).kept (Kept.new (Below.refl _ _) (.cells (LC0 n0 n1 n2).toArray 24)));replace B5:=qh ((B5.out.kept hk14).kept (Kept.new (Below.refl _ _) (.cells (LC0 n0 n1 n2).toArray 24)));obtain⟨gn,hg⟩: ∃g,g=w14.heap.size:=⟨_,rfl⟩
   rw[←hg]at BN⊢;clear hg hk14;generalize(w14.alloc (.cells (LC0 n0 n1 n2).toArray 24))=w15 at *;clear c0 c1 c2 c3 c4 c5 NRM BS KW;rcases hs6 with rfl|rfl;rotate_left
   ·have HE:=qh (show E=4 from by
     have h8:=HFEE.out;rw[if_neg (fun h=>absurd h.1 (by decide))]at h8;have h9:=HC2.out;simp at h9;exact h9 h8.symm)
    obtain⟨re0,re1⟩:(World.cell? _ ⟨b+1,0,none⟩=some (.complex .f64 0 0))∧(World.cell? _ ⟨b+1,1,none⟩=some (.float .f64 0)):=⟨(B1.out.kept K15.out).c 0 rfl,(B1.out.kept K15.out).c 1 rfl⟩
    obtain⟨rf0,rf1⟩:(World.frozen? _ ⟨b+1,0,none⟩=false)∧(World.frozen? _ ⟨b+1,1,none⟩=false):=⟨(B1.out.kept K15.out).f 0,(B1.out.kept K15.out).f 1⟩
    go_wp2_with fail
    exact bodyPost_ret (v:=.tuple #[.agg #[.complex .f64 0 0,.float .f64 0],.int .i64 4]) (by simp[results,results41,go_sem,re0,re1]) rfl (HPQ.out 4 0 0 0 _ HE.out.symm (by decide) (by decide) (by decide) (((K1.out.trans' K15.out).set (b:=b+1) (by have:=HB.out;omega) 0 _).set (b:=b+1) (by have:=HB.out;omega) 1 _))
   rcases hn3 with rfl|rfl;rotate_left
   ·have HE:=qh (show E=4 from by
     have h8:=HFEE.out;rw[if_neg (fun h=>absurd h.2 (by decide))]at h8;have h9:=HC2.out;simp at h9;exact h9 h8.symm)
    obtain⟨re0,re1⟩:(World.cell? _ ⟨b+1,0,none⟩=some (.complex .f64 0 0))∧(World.cell? _ ⟨b+1,1,none⟩=some (.float .f64 0)):=⟨(B1.out.kept K15.out).c 0 rfl,(B1.out.kept K15.out).c 1 rfl⟩
    obtain⟨rf0,rf1⟩:(World.frozen? _ ⟨b+1,0,none⟩=false)∧(World.frozen? _ ⟨b+1,1,none⟩=false):=⟨(B1.out.kept K15.out).f 0,(B1.out.kept K15.out).f 1⟩
    go_wp2_with fail
    exact bodyPost_ret (v:=.tuple #[.agg #[.complex .f64 0 0,.float .f64 0],.int .i64 4]) (by simp[results,results41,go_sem,re0,re1]) rfl (HPQ.out 4 0 0 0 _ HE.out.symm (by decide) (by decide) (by decide) (((K1.out.trans' K15.out).set (b:=b+1) (by have:=HB.out;omega) 0 _).set (b:=b+1) (by have:=HB.out;omega) 1 _))
   obtain⟨c0,c1,c2⟩:=B5.out.c3;obtain⟨d0,d1,d2⟩:=BN.out.c3;have HF2:=qh (show qd7 ⟨⟨z0,z1,z2⟩,⟨z3,z4,z5⟩⟩ (L.drop (k+1)) (if 0< -cc then⟨n0,n1,n2⟩else⟨m0,m1,m2⟩)=F from by have h8:=HFEE.out;rw[if_pos ⟨rfl,rfl⟩]at h8;exact h8);clear HFEE;by_cases hcc:cc<0
   ·have HF3:=qh (show qd7 ⟨⟨z0,z1,z2⟩,⟨z3,z4,z5⟩⟩ (L.drop (k+1)) ⟨n0,n1,n2⟩=F from by have h8:=HF2.out;rw[if_pos (by omega)]at h8;exact h8)
    clear HF2;go_upto_region 18 with (go_at_call 81;(with_reducible refine(CMP.out _).mono ?_);rintro e w16 ⟨rfl,hk16⟩)
    replace B2:=qh (B2.out.kept hk16);replace B4:=qh (B4.out.kept hk16);replace B5:=qh (B5.out.kept hk16);replace BN:=qh (BN.out.kept hk16);replace K15:=qh (K15.out.trans' hk16);clear c0 c1 c2 d0 d1 d2 hk16;obtain⟨c0,c1,c2⟩:=B5.out.c3;obtain⟨f0,f1,f2⟩:=B5.out.f3;obtain⟨d0,d1,d2⟩:=BN.out.c3;go_wp2_with fail
    go_roundg gh
    case measure=>omega
    case rel=>
     exact⟨k+1,⟨n0,n1,n2⟩,by omega,by go_num,HNO.out,hN0.out,HF3.out,((B5.out.set 0 _ (by simp)).set 1 _ (by simp)).set 2 _ (by simp),((B2.out.far ⟨q,0,none⟩ HGQ.out.1 _).far ⟨q,1,none⟩ HGQ.out.1 _).far ⟨q,2,none⟩ HGQ.out.1 _,((B4.out.far ⟨q,0,none⟩ HGQ.out.2 _).far ⟨q,1,none⟩ HGQ.out.2 _).far ⟨q,2,none⟩ HGQ.out.2 _,K15.out.qaO HQ.out _ _ _⟩
   ·have HF3:=qh (show qd7 ⟨⟨z0,z1,z2⟩,⟨z3,z4,z5⟩⟩ (L.drop (k+1)) ⟨m0,m1,m2⟩=F from by have h8:=HF2.out;rw[if_neg (by omega)]at h8;exact h8)
    clear HF2;go_wp2_with (go_at_call 81;(with_reducible refine(CMP.out _).mono ?_);rintro e w16 ⟨rfl,hk16⟩;replace B2:=qh (B2.out.kept hk16);replace B4:=qh (B4.out.kept hk16);replace B5:=qh (B5.out.kept hk16);replace K15:=qh (K15.out.trans' hk16);clear hk16)
    go_roundg gh
    case measure=>omega
    case rel=>
     exact⟨k+1,⟨m0,m1,m2⟩,by omega,by go_num,HMO.out,HM0.out,HF3.out,B5.out,B2.out,B4.out,K15.out⟩
theorem qhw (s:SqD) (w:World) (hs:sqB s=true):
  Calls prog 41 #[.agg #[.bool s.left.neg,.string s.left.n,.int .i64 s.left.e,.bool s.low.neg,.string s.low.n,.int .i64 s.low.e,.int .i64 s.e]] w fun en w'=> ∃c1 c2 r:Nat,c1<18446744073709551616∧c2<18446744073709551616∧r<18446744073709551616∧en=.returned (.tuple #[.agg #[.complex .f64 c1 c2,.float .f64 r],.int .i64 (qah s).2])∧Kept w w':=by
 by_cases h:(qbi s).2=0∧(qbs s).2=0
 ·exact qjD s (qbi s).1 (qbs s).1 w hs (qdV _ _ (qax.1 hs).1) (qdV _ _ (qax.1 hs).2.1) (by unfold qaY;rw[if_pos h])
 ·exact qjg s w hs (by unfold qaY;rw[if_neg h])
end
section
attribute [local go_sem] run_float_arith qaM qaN qaw qaf qad
structure RuD where
 k:Int
 c:GsD
 r:DyD
 x:Nat
 y:Nat
structure RuD.ok (u:RuD):Prop where
 k0: -9223372036854775808≤u.k
 k1:u.k≤9223372036854775807
 re:u.c.re.ok
 im:u.c.im.ok
 r:u.r.ok
 x:u.x<18446744073709551616
 y:u.y<18446744073709551616
def qlI (u:RuD) (c1 c2 r:Nat):Int:=
 if (gsB u.c&&qae u.r)=true then
  if (qbI c1 c2).2=0∧(qa3 r).2=0 then
   if qe5 (qbI c1 c2).1 (qa3 r).1 u.c u.r=(true,0)then 1
   else if qgc (qbI c1 c2).1 (qa3 r).1 u.c u.r=(true,0)then 2 else 0
  else 0
 else 0
abbrev ruL (u:RuD):List Value:=[.int .i64 u.k,.bool u.c.re.neg,.string u.c.re.n,.int .i64 u.c.re.e,.bool u.c.im.neg,.string u.c.im.n,.int .i64 u.c.im.e,.bool u.r.neg,.string u.r.n,.int .i64 u.r.e,.float .f64 u.x,.float .f64 u.y]
set_option maxRecDepth 100000 in
set_option maxHeartbeats 3200000 in
theorem qnc (u:RuD) (hu:u.k=1) (c1 c2 r:Nat) (w:World):
  Calls prog 98 #[.agg (ruL u).toArray,.agg #[.complex .f64 c1 c2,.float .f64 r]] w fun en w'=>en=.returned (.int .u8 (if (FloatKind.f64.format.order c1 u.x==some .gt)=true then 2 else if (FloatKind.f64.format.order r u.y==some .lt)=true then 1 else 0))∧Kept w w':=by
 obtain⟨k,⟨⟨a0,a1,a2⟩,⟨a3,a4,a5⟩⟩,⟨a6,a7,a8⟩,x,y⟩:=u;simp only at hu⊢;subst hu;by_cases h1:(FloatKind.f64.format.order c1 x==some .gt)=true
 ·rw [if_pos h1]
  go_enter func98,ntmps98
  go_upto_region 1 with fail
  obtain⟨b,w1,hw,hb,B0,B1,K1,HB⟩:=qa6 w [.int .i64 1,.bool a0,.string a1,.int .i64 a2,.bool a3,.string a4,.int .i64 a5,.bool a6,.string a7,.int .i64 a8,.float .f64 x,.float .f64 y] 31 [.complex .f64 c1 c2,.float .f64 r] 85;rw[←hw,←hb];clear hw hb;have k0:=B0.out.c 0 rfl;have k10:=B0.out.c 10 rfl;have k11:=B0.out.c 11 rfl;have l0:=B1.out.c 0 rfl;have l1:=B1.out.c 1 rfl;go_wp2_with fail
  exact bodyPost_ret (v:=.int .u8 2) (by simp[results,results98,go_sem]) rfl ⟨rfl,K1.out⟩
 ·rw [if_neg h1]
  by_cases h2:(FloatKind.f64.format.order r y==some .lt)=true
  ·rw [if_pos h2]
   go_enter func98,ntmps98
   go_upto_region 1 with fail
   obtain⟨b,w1,hw,hb,B0,B1,K1,HB⟩:=qa6 w [.int .i64 1,.bool a0,.string a1,.int .i64 a2,.bool a3,.string a4,.int .i64 a5,.bool a6,.string a7,.int .i64 a8,.float .f64 x,.float .f64 y] 31 [.complex .f64 c1 c2,.float .f64 r] 85;rw[←hw,←hb];clear hw hb;have k0:=B0.out.c 0 rfl;have k10:=B0.out.c 10 rfl;have k11:=B0.out.c 11 rfl;have l0:=B1.out.c 0 rfl;have l1:=B1.out.c 1 rfl;go_wp2_with fail
   exact bodyPost_ret (v:=.int .u8 1) (by simp[results,results98,go_sem]) rfl ⟨rfl,K1.out⟩
  ·rw [if_neg h2]
   go_enter func98,ntmps98
   go_upto_region 1 with fail
   obtain⟨b,w1,hw,hb,B0,B1,K1,HB⟩:=qa6 w [.int .i64 1,.bool a0,.string a1,.int .i64 a2,.bool a3,.string a4,.int .i64 a5,.bool a6,.string a7,.int .i64 a8,.float .f64 x,.float .f64 y] 31 [.complex .f64 c1 c2,.float .f64 r] 85;rw[←hw,←hb];clear hw hb;have k0:=B0.out.c 0 rfl;have k10:=B0.out.c 10 rfl;have k11:=B0.out.c 11 rfl;have l0:=B1.out.c 0 rfl;have l1:=B1.out.c 1 rfl;go_wp2_with fail
   exact bodyPost_ret (v:=.int .u8 0) (by simp[results,results98,go_sem]) rfl ⟨rfl,K1.out⟩
end
section
attribute [local go_sem] run_float_arith qaM qaN qaw qaf qad
def qoo (i:Nat):Int:=if i=1∨i=5 then 1 else if i=2 then 2 else if i=6 then 9 else 0
def qjk (k:Int) (c1 c2 r:Nat):Int:=IntKind.u64.wrap (IntKind.u64.wrap (IntKind.u64.wrap (IntKind.u64.wrap ((c1:Int)*3)+IntKind.u64.wrap ((c2:Int)*5))+IntKind.u64.wrap ((r:Int)*7))+IntKind.u64.wrap k)
def qgn (N:Int):Int:=IntKind.u64.wrap (bits BinOp.xor IntKind.u64 N (N / 2147483648)*11400714819323198485)
def qpD (k:Int) (c1 c2 r:Nat):Int:=qoo (qgn (qjk k c1 c2 r) / 2305843009213693952).toNat
theorem qlX (i:Nat) (hi:i<8) (W:World):(Instr.index 222 (.agg #[.int .u8 0,.int .u8 1,.int .u8 2,.int .u8 0,.int .u8 0,.int .u8 1,.int .u8 9,.int .u8 0]) (.int .u64 (i:Int))).run prog W=.ok (.int .u8 (qoo i)) W:=by
 rcases(show i=0∨i=1∨i=2∨i=3∨i=4∨i=5∨i=6∨i=7 by omega)with rfl|rfl|rfl|rfl|rfl|rfl|rfl|rfl<;>kernel_rfl
theorem qnR (N:Int):0≤qgn N∧qgn N<18446744073709551616:=by
 unfold qgn;generalize bits BinOp.xor IntKind.u64 N (N / 2147483648)*11400714819323198485=x;have e:IntKind.u64.wrap x=x % 18446744073709551616:=rfl;rw[e];omega
set_option maxRecDepth 100000 in
set_option maxHeartbeats 3200000 in
theorem qnd (u:RuD) (hu0: ¬u.k=0) (hu1: ¬u.k=1) (c1 c2 r:Nat) (w:World):
  Calls prog 98 #[.agg (ruL u).toArray,.agg #[.complex .f64 c1 c2,.float .f64 r]] w fun en w'=>en=.returned (.int .u8 (qpD u.k c1 c2 r))∧Kept w w':=by
 obtain⟨k,⟨⟨a0,a1,a2⟩,⟨a3,a4,a5⟩⟩,⟨a6,a7,a8⟩,x,y⟩:=u;simp only at hu0 hu1⊢;go_enter func98,ntmps98
 go_upto_region 1 with fail
 obtain⟨b,w1,hw,hb,B0,B1,K1,HB⟩:=qa6 w [.int .i64 k,.bool a0,.string a1,.int .i64 a2,.bool a3,.string a4,.int .i64 a5,.bool a6,.string a7,.int .i64 a8,.float .f64 x,.float .f64 y] 31 [.complex .f64 c1 c2,.float .f64 r] 85;rw[←hw,←hb];clear hw hb;have k0:=B0.out.c 0 rfl;have l0:=B1.out.c 0 rfl;have l1:=B1.out.c 1 rfl;go_upto_region 22 with fail
 clear k0 l0 l1;have k0:=B0.out.c 0 rfl;have l0:=B1.out.c 0 rfl;have l1:=B1.out.c 1 rfl;go_quiet (fail)
 obtain⟨N,hN⟩: ∃N,N=qjk k c1 c2 r:=⟨_,rfl⟩
 unfold qjk at hN;rw[←hN];have HN:=qh hN;clear hN k0 l0 l1;go_upto_region 24 with fail
 obtain⟨X,hX⟩: ∃X,X=qgn N:=⟨_,rfl⟩
 have hlt:=qnR N;rw[←hX]at hlt;unfold qgn at hX;rw[←hX];have HX:=qh hX;clear hX;obtain⟨i,hi⟩: ∃i:Nat,X / 2305843009213693952=(i:Int):=⟨(X / 2305843009213693952).toNat,by omega⟩
 have hi8:i<8:=by omega
 have HI:=qlX i hi8;clear hlt;go_wp2_with fail
 exact bodyPost_ret (v:=.int .u8 (qoo i)) (by simp[results,results98,go_sem]) rfl ⟨by
  have e1:qgn (qjk k c1 c2 r)=X:=by rw[HX.out,HN.out];rfl
  show Ending.returned (.int .u8 (qoo i))=.returned (.int .u8 (qoo (qgn (qjk k c1 c2 r) / 2305843009213693952).toNat));rw[e1,hi];rfl,qaC K1.out _⟩
end
set_option maxRecDepth 100000 in
set_option maxHeartbeats 3200000 in
theorem qm6 (u:RuD) (hu:u.k=0) (hok:u.ok) (c1 c2 r:Nat) (h1:c1<18446744073709551616) (h2:c2<18446744073709551616) (h3:r<18446744073709551616) (w:World):
  Calls prog 98 #[.agg (ruL u).toArray,.agg #[.complex .f64 c1 c2,.float .f64 r]] w fun en w'=>en=.returned (.int .u8 (qlI u c1 c2 r))∧Kept w w':=by
 obtain⟨V,hV⟩: ∃V,V=qlI u c1 c2 r:=⟨_,rfl⟩
 rw[←hV];unfold qlI at hV;have CM6:=qh (fun W=>qmA u.c.re u.c.im W hok.re hok.im);have CM3:=qh (fun W=>qeb u.r W hok.r);by_cases hp:gsB u.c=true
 ·have hp2:(qae u.c.re&&qae u.c.im)=true:=hp
  rw[hp2]at CM6;by_cases hq:qae u.r=true
  ·rw [hq]at CM3
   rw[if_pos (by rw[hp,hq];rfl)]at hV;have CPX:=qh (fun W=>qfs c1 c2 W h1 h2);have FLT:=qh (fun W=>qep r W h3);have hg:=qiB c1 c2;have hf:=qfP r;have e1:(qbI c1 c2).2=0∨(qbI c1 c2).2=5:=by unfold qbI;split<;>simp
   have e2:(qa3 r).2=0∨(qa3 r).2=5:=by
    by_cases hh:qb6 r=true
    ·exact .inl (qhi hh)
    ·rw [qg5 hh];exact .inr rfl
   have WIT:=qh (fun W=>qjN (qbI c1 c2).1 (qa3 r).1 u.c u.r W hg hf hp hq);have APT:=qh (fun W=>qkq (qbI c1 c2).1 (qa3 r).1 u.c u.r W hg hf hp hq);generalize qe5 (qbI c1 c2).1 (qa3 r).1 u.c u.r=X at *;generalize qgc (qbI c1 c2).1 (qa3 r).1 u.c u.r=Y at *;generalize qbI c1 c2=G at *;generalize qa3 r=H at *;obtain⟨k,⟨⟨a0,a1,a2⟩,⟨a3,a4,a5⟩⟩,⟨a6,a7,a8⟩,x,y⟩:=u;obtain⟨x1,x2⟩:=X;obtain⟨y1,y2⟩:=Y;obtain⟨⟨⟨g0,g1,g2⟩,⟨g3,g4,g5⟩⟩,g6⟩:=G;obtain⟨⟨d0,d1,d2⟩,d3⟩:=H;simp only at hu CM6 CM3 CPX FLT WIT APT hV e1 e2⊢;subst hu;have HV:=qh hV;clear hV hp hq hp2 hok hg hf;go_enter func98,ntmps98
   go_upto_region 1 with fail
   obtain⟨b,w1,hw,hb,B0,B1,K1,HB⟩:=qa6 w [.int .i64 0,.bool a0,.string a1,.int .i64 a2,.bool a3,.string a4,.int .i64 a5,.bool a6,.string a7,.int .i64 a8,.float .f64 x,.float .f64 y] 31 [.complex .f64 c1 c2,.float .f64 r] 85;rw[←hw,←hb];clear hw hb;have k0:=B0.out.c 0 rfl;have l0:=B1.out.c 0 rfl;have l1:=B1.out.c 1 rfl;obtain⟨s1,s2,s3⟩:World.cell? w1 ⟨b,1,none⟩=some (.bool a0)∧World.cell? w1 ⟨b,2,none⟩=some (.string a1)∧World.cell? w1 ⟨b,3,none⟩=some (.int .i64 a2):=⟨B0.out.c 1 rfl,B0.out.c 2 rfl,B0.out.c 3 rfl⟩
   obtain⟨s4,s5,s6⟩:World.cell? w1 ⟨b,4,none⟩=some (.bool a3)∧World.cell? w1 ⟨b,5,none⟩=some (.string a4)∧World.cell? w1 ⟨b,6,none⟩=some (.int .i64 a5):=⟨B0.out.c 4 rfl,B0.out.c 5 rfl,B0.out.c 6 rfl⟩
   go_upto_region 5 with (first
    |(go_at_call 62;(with_reducible refine(CM6.out _).mono ?_);rintro e w2 ⟨rfl,hk2⟩;obtain⟨s7,s8,s9⟩:(World.cell? w2 ⟨b,7,none⟩=some (.bool a6))∧(World.cell? w2 ⟨b,8,none⟩=some (.string a7))∧(World.cell? w2 ⟨b,9,none⟩=some (.int .i64 a8)):=⟨(B0.out.kept hk2).c 7 rfl,(B0.out.kept hk2).c 8 rfl,(B0.out.kept hk2).c 9 rfl⟩)
    |(go_at_call 73;(with_reducible refine(CM3.out _).mono ?_);rintro e w3 ⟨rfl,hk3⟩;have K3:=qh (hk2.trans' hk3)))
   clear s1 s2 s3 s4 s5 s6 s7 s8 s9 k0 l0 l1;have l0:=(B1.out.kept K3.out).c 0 rfl;have l1:=(B1.out.kept K3.out).c 1 rfl;clear hk2 hk3 CM6 CM3;go_upto_region 6 with (go_at_call 78;(with_reducible refine(CPX.out _).mono ?_);rintro e w4 ⟨rfl,hk4⟩)
   have K5:=qh (Kept.new (K3.out.trans' hk4) (.cells (LC1 g0 g1 g2 g3 g4 g5).toArray 28));have B2:=qh (Bx.new w4 (LC1 g0 g1 g2 g3 g4 g5) 28 w4.heap.size rfl);obtain⟨g,hg⟩: ∃g,g=w4.heap.size:=⟨_,rfl⟩
   rw[←hg]at B2⊢;clear hg hk4 CPX K3 l0 l1;generalize(w4.alloc (.cells (LC1 g0 g1 g2 g3 g4 g5).toArray 28))=w5 at *;have l0:=(B1.out.kept K5.out).c 0 rfl;have l1:=(B1.out.kept K5.out).c 1 rfl;go_upto_region 7 with (go_at_call 118;(with_reducible refine(FLT.out _).mono ?_);rintro e w6 ⟨rfl,hk6⟩)
   have K7:=qh (Kept.new (K5.out.trans' hk6) (.cells (LC0 d0 d1 d2).toArray 24));have B3:=qh (Bx.new w6 (LC0 d0 d1 d2) 24 w6.heap.size rfl);replace B2:=qh ((B2.out.kept hk6).kept (Kept.new (Below.refl _ _) (.cells (LC0 d0 d1 d2).toArray 24)));obtain⟨h,hh⟩: ∃h,h=w6.heap.size:=⟨_,rfl⟩
   rw[←hh]at B3⊢;clear hh hk6 FLT K5 l0 l1;generalize(w6.alloc (.cells (LC0 d0 d1 d2).toArray 24))=w7 at *;have k0:=(B0.out.kept K7.out).c 0 rfl;rcases e1 with rfl|rfl
   ·rcases e2 with rfl|rfl
    ·obtain⟨s1,s2,s3⟩:(World.cell? _ ⟨b,1,none⟩=some (.bool a0))∧(World.cell? _ ⟨b,2,none⟩=some (.string a1))∧(World.cell? _ ⟨b,3,none⟩=some (.int .i64 a2)):=⟨(B0.out.kept K7.out).c 1 rfl,(B0.out.kept K7.out).c 2 rfl,(B0.out.kept K7.out).c 3 rfl⟩
     obtain⟨s4,s5,s6⟩:(World.cell? _ ⟨b,4,none⟩=some (.bool a3))∧(World.cell? _ ⟨b,5,none⟩=some (.string a4))∧(World.cell? _ ⟨b,6,none⟩=some (.int .i64 a5)):=⟨(B0.out.kept K7.out).c 4 rfl,(B0.out.kept K7.out).c 5 rfl,(B0.out.kept K7.out).c 6 rfl⟩
     obtain⟨s7,s8,s9⟩:(World.cell? _ ⟨b,7,none⟩=some (.bool a6))∧(World.cell? _ ⟨b,8,none⟩=some (.string a7))∧(World.cell? _ ⟨b,9,none⟩=some (.int .i64 a8)):=⟨(B0.out.kept K7.out).c 7 rfl,(B0.out.kept K7.out).c 8 rfl,(B0.out.kept K7.out).c 9 rfl⟩
     obtain⟨p0,p1,p2,p3,p4,p5⟩:=B2.out.c6;obtain⟨q0,q1,q2⟩:=B3.out.c3;go_upto_region 10 with (go_at_call 140;(with_reducible refine(WIT.out _).mono ?_);rintro e w8 ⟨rfl,hk8⟩)
     replace K7:=qh (K7.out.trans' hk8);replace B2:=qh (B2.out.kept hk8);replace B3:=qh (B3.out.kept hk8);clear hk8 WIT k0 s1 s2 s3 s4 s5 s6 s7 s8 s9 p0 p1 p2 p3 p4 p5 q0 q1 q2;obtain⟨s1,s2,s3⟩:(World.cell? _ ⟨b,1,none⟩=some (.bool a0))∧(World.cell? _ ⟨b,2,none⟩=some (.string a1))∧(World.cell? _ ⟨b,3,none⟩=some (.int .i64 a2)):=⟨(B0.out.kept K7.out).c 1 rfl,(B0.out.kept K7.out).c 2 rfl,(B0.out.kept K7.out).c 3 rfl⟩
     obtain⟨s4,s5,s6⟩:(World.cell? _ ⟨b,4,none⟩=some (.bool a3))∧(World.cell? _ ⟨b,5,none⟩=some (.string a4))∧(World.cell? _ ⟨b,6,none⟩=some (.int .i64 a5)):=⟨(B0.out.kept K7.out).c 4 rfl,(B0.out.kept K7.out).c 5 rfl,(B0.out.kept K7.out).c 6 rfl⟩
     obtain⟨s7,s8,s9⟩:(World.cell? _ ⟨b,7,none⟩=some (.bool a6))∧(World.cell? _ ⟨b,8,none⟩=some (.string a7))∧(World.cell? _ ⟨b,9,none⟩=some (.int .i64 a8)):=⟨(B0.out.kept K7.out).c 7 rfl,(B0.out.kept K7.out).c 8 rfl,(B0.out.kept K7.out).c 9 rfl⟩
     obtain⟨p0,p1,p2,p3,p4,p5⟩:=B2.out.c6;obtain⟨q0,q1,q2⟩:=B3.out.c3;go_upto_region 11 with (go_at_call 141;(with_reducible refine(APT.out _).mono ?_);rintro e w9 ⟨rfl,hk9⟩)
     replace K7:=qh (K7.out.trans' hk9);clear hk9 APT s1 s2 s3 s4 s5 s6 s7 s8 s9 p0 p1 p2 p3 p4 p5 q0 q1 q2;by_cases hx2:x2=0
     ·subst hx2
      cases x1 with
      |true=>
       go_wp2_with fail
       exact bodyPost_ret (v:=.int .u8 1) (by simp[results,results98,go_sem]) rfl ⟨by show Ending.returned _=Ending.returned (.int .u8 V);rw[HV.out];try simp,K1.out.trans' K7.out⟩
      |false=>
       by_cases hy2:y2=0
       ·subst hy2
        cases y1 with
        |true=>
         go_wp2_with fail
         exact bodyPost_ret (v:=.int .u8 2) (by simp[results,results98,go_sem]) rfl ⟨by show Ending.returned _=Ending.returned (.int .u8 V);rw[HV.out];try simp[],K1.out.trans' K7.out⟩
        |false=>
         go_wp2_with fail
         exact bodyPost_ret (v:=.int .u8 0) (by simp[results,results98,go_sem]) rfl ⟨by show Ending.returned _=Ending.returned (.int .u8 V);rw[HV.out];try simp[],K1.out.trans' K7.out⟩
       ·have hy3: ¬(y1,y2)=(true,(0:Int)):=fun e=>hy2 (Prod.mk.inj e).2
        go_wp2_with fail
        exact bodyPost_ret (v:=.int .u8 0) (by simp[results,results98,go_sem]) rfl ⟨by show Ending.returned _=Ending.returned (.int .u8 V);rw[HV.out];try simp[hy2],K1.out.trans' K7.out⟩
     ·by_cases hy2:y2=0
      ·subst hy2
       cases y1 with
       |true=>
        go_wp2_with fail
        exact bodyPost_ret (v:=.int .u8 2) (by simp[results,results98,go_sem]) rfl ⟨by show Ending.returned _=Ending.returned (.int .u8 V);rw[HV.out];try simp[hx2],K1.out.trans' K7.out⟩
       |false=>
        go_wp2_with fail
        exact bodyPost_ret (v:=.int .u8 0) (by simp[results,results98,go_sem]) rfl ⟨by show Ending.returned _=Ending.returned (.int .u8 V);rw[HV.out];try simp[hx2],K1.out.trans' K7.out⟩
      ·have hy3: ¬(y1,y2)=(true,(0:Int)):=fun e=>hy2 (Prod.mk.inj e).2
       go_wp2_with fail
       exact bodyPost_ret (v:=.int .u8 0) (by simp[results,results98,go_sem]) rfl ⟨by show Ending.returned _=Ending.returned (.int .u8 V);rw[HV.out];try simp[hx2,hy2],K1.out.trans' K7.out⟩
    ·go_wp2_with fail
     exact bodyPost_ret (v:=.int .u8 0) (by simp[results,results98,go_sem]) rfl ⟨by show Ending.returned _=Ending.returned (.int .u8 V);rw[HV.out];try simp,K1.out.trans' K7.out⟩
   ·go_wp2_with fail
    exact bodyPost_ret (v:=.int .u8 0) (by simp[results,results98,go_sem]) rfl ⟨by show Ending.returned _=Ending.returned (.int .u8 V);rw[HV.out];try simp,K1.out.trans' K7.out⟩
  ·have hq2:qae u.r=false:=by simpa using hq
   rw[hq2]at CM3;rw[if_neg (by rw[hp,hq2];simp)]at hV;obtain⟨k,⟨⟨a0,a1,a2⟩,⟨a3,a4,a5⟩⟩,⟨a6,a7,a8⟩,x,y⟩:=u;simp only at hu CM6 CM3⊢;subst hu;have HV:=qh hV;clear hV hp hq hp2 hq2 hok;go_enter func98,ntmps98
   go_upto_region 1 with fail
   obtain⟨b,w1,hw,hb,B0,B1,K1,HB⟩:=qa6 w [.int .i64 0,.bool a0,.string a1,.int .i64 a2,.bool a3,.string a4,.int .i64 a5,.bool a6,.string a7,.int .i64 a8,.float .f64 x,.float .f64 y] 31 [.complex .f64 c1 c2,.float .f64 r] 85;rw[←hw,←hb];clear hw hb;have k0:=B0.out.c 0 rfl;have l0:=B1.out.c 0 rfl;have l1:=B1.out.c 1 rfl;obtain⟨s1,s2,s3⟩:World.cell? w1 ⟨b,1,none⟩=some (.bool a0)∧World.cell? w1 ⟨b,2,none⟩=some (.string a1)∧World.cell? w1 ⟨b,3,none⟩=some (.int .i64 a2):=⟨B0.out.c 1 rfl,B0.out.c 2 rfl,B0.out.c 3 rfl⟩
   obtain⟨s4,s5,s6⟩:World.cell? w1 ⟨b,4,none⟩=some (.bool a3)∧World.cell? w1 ⟨b,5,none⟩=some (.string a4)∧World.cell? w1 ⟨b,6,none⟩=some (.int .i64 a5):=⟨B0.out.c 4 rfl,B0.out.c 5 rfl,B0.out.c 6 rfl⟩
   go_wp2_with (first
    |(go_at_call 62;(with_reducible refine(CM6.out _).mono ?_);rintro e w2 ⟨rfl,hk2⟩;obtain⟨s7,s8,s9⟩:(World.cell? w2 ⟨b,7,none⟩=some (.bool a6))∧(World.cell? w2 ⟨b,8,none⟩=some (.string a7))∧(World.cell? w2 ⟨b,9,none⟩=some (.int .i64 a8)):=⟨(B0.out.kept hk2).c 7 rfl,(B0.out.kept hk2).c 8 rfl,(B0.out.kept hk2).c 9 rfl⟩)
    |(go_at_call 73;(with_reducible refine(CM3.out _).mono ?_);rintro e w3 ⟨rfl,hk3⟩;have K3:=qh (hk2.trans' hk3)))
   exact bodyPost_ret (v:=.int .u8 0) (by simp[results,results98,go_sem]) rfl ⟨by show Ending.returned _=Ending.returned (.int .u8 V);rw[HV.out],K1.out.trans' K3.out⟩
 ·have hp2:(qae u.c.re&&qae u.c.im)=false:=by
   have:gsB u.c=false:=by simpa using hp
   exact this
  rw[hp2]at CM6;rw[if_neg (by intro e;rw[Bool.and_eq_true]at e;exact hp e.1)]at hV;obtain⟨k,⟨⟨a0,a1,a2⟩,⟨a3,a4,a5⟩⟩,⟨a6,a7,a8⟩,x,y⟩:=u;simp only at hu CM6 CM3⊢;subst hu;have HV:=qh hV;clear hV hp hp2 hok CM3;go_enter func98,ntmps98
  go_upto_region 1 with fail
  obtain⟨b,w1,hw,hb,B0,B1,K1,HB⟩:=qa6 w [.int .i64 0,.bool a0,.string a1,.int .i64 a2,.bool a3,.string a4,.int .i64 a5,.bool a6,.string a7,.int .i64 a8,.float .f64 x,.float .f64 y] 31 [.complex .f64 c1 c2,.float .f64 r] 85;rw[←hw,←hb];clear hw hb;have k0:=B0.out.c 0 rfl;have l0:=B1.out.c 0 rfl;have l1:=B1.out.c 1 rfl;obtain⟨s1,s2,s3⟩:World.cell? w1 ⟨b,1,none⟩=some (.bool a0)∧World.cell? w1 ⟨b,2,none⟩=some (.string a1)∧World.cell? w1 ⟨b,3,none⟩=some (.int .i64 a2):=⟨B0.out.c 1 rfl,B0.out.c 2 rfl,B0.out.c 3 rfl⟩
  obtain⟨s4,s5,s6⟩:World.cell? w1 ⟨b,4,none⟩=some (.bool a3)∧World.cell? w1 ⟨b,5,none⟩=some (.string a4)∧World.cell? w1 ⟨b,6,none⟩=some (.int .i64 a5):=⟨B0.out.c 4 rfl,B0.out.c 5 rfl,B0.out.c 6 rfl⟩
  go_wp2_with (go_at_call 62;(with_reducible refine(CM6.out _).mono ?_);rintro e w2 ⟨rfl,hk2⟩)
  exact bodyPost_ret (v:=.int .u8 0) (by simp[results,results98,go_sem]) rfl ⟨by show Ending.returned _=Ending.returned (.int .u8 V);rw[HV.out],K1.out.trans' hk2⟩
section
set_option maxHeartbeats 3200000
set_option maxRecDepth 100000
def qis (u:RuD) (c1 c2 r:Nat):Int:=if u.k=0 then qlI u c1 c2 r else if u.k=1 then(if (FloatKind.f64.format.order c1 u.x==some .gt)=true then 2 else if (FloatKind.f64.format.order r u.y==some .lt)=true then 1 else 0)else qpD u.k c1 c2 r
def qhg (u:RuD) (c1 c2 r:Nat):Nat:=if qis u c1 c2 r=1 then 1 else if qis u c1 c2 r=2 then 2 else 0
theorem qpe (u:RuD) (c1 c2 r:Nat):qhg u c1 c2 r≤2:=by unfold qhg;split<;>(try split)<;>omega
theorem qi1 (u:RuD) (hok:u.ok) (c1 c2 r:Nat) (h1:c1<18446744073709551616) (h2:c2<18446744073709551616) (h3:r<18446744073709551616) (w:World):
  Calls prog 98 #[.agg (ruL u).toArray,.agg #[.complex .f64 c1 c2,.float .f64 r]] w fun en w'=>en=.returned (.int .u8 (qis u c1 c2 r))∧Kept w w':=by
 unfold qis;split
 ·exact qm6 u (by assumption) hok c1 c2 r h1 h2 h3 w
 ·split
  ·exact qnc u (by assumption) c1 c2 r w
  ·exact qnd u (by assumption) (by assumption) c1 c2 r w
theorem qp1 (u:RuD) (hok:u.ok) (c1 c2 r:Nat) (h1:c1<18446744073709551616) (h2:c2<18446744073709551616) (h3:r<18446744073709551616) (w:World):
  Calls prog 59 #[.agg (ruL u).toArray,.agg #[.complex .f64 c1 c2,.float .f64 r]] w fun en w'=>en=.returned (.int .u8 (qhg u c1 c2 r))∧Kept w w':=by
 have TEL:=qh (fun W=>qi1 u hok c1 c2 r h1 h2 h3 W);obtain⟨V,hV⟩: ∃V:Int,V=(qhg u c1 c2 r:Nat):=⟨_,rfl⟩
 rw[←hV];unfold qhg at hV;generalize qis u c1 c2 r=T at *;obtain⟨k,⟨⟨a0,a1,a2⟩,⟨a3,a4,a5⟩⟩,⟨a6,a7,a8⟩,x,y⟩:=u;try simp only at TEL⊢
 by_cases t1:T=1
 ·subst t1
  have HV:=qh (show V=1 from hV);clear hV hok;go_enter func59,ntmps59
  go_upto_region 1 with fail
  obtain⟨b,w1,hw,hb,B0,B1,K1,HB⟩:=qa6 w [.int .i64 k,.bool a0,.string a1,.int .i64 a2,.bool a3,.string a4,.int .i64 a5,.bool a6,.string a7,.int .i64 a8,.float .f64 x,.float .f64 y] 31 [.complex .f64 c1 c2,.float .f64 r] 85;rw[←hw,←hb];clear hw hb;refine wp_region_list ?_;refine wpList_plain rfl fun K hK=>qag (b:=b) (n:=12) _ rfl rfl B0.out rfl underlying31 rfl (by kernel_rfl) (hK _ _ ?_);clear hK K;have l0:=B1.out.c 0 rfl;have l1:=B1.out.c 1 rfl;go_wp2_with (go_at_call 98;(with_reducible refine(TEL.out _).mono ?_);rintro e w2 ⟨rfl,hk2⟩)
  exact bodyPost_ret (v:=.int .u8 1) (by simp[results,results59,go_sem]) rfl ⟨by show Ending.returned _=Ending.returned (.int .u8 V);rw[HV.out],K1.out.trans' hk2⟩
 ·by_cases t2:T=2
  ·subst t2
   have HV:=qh (show V=2 from hV);clear hV hok;go_enter func59,ntmps59
   go_upto_region 1 with fail
   obtain⟨b,w1,hw,hb,B0,B1,K1,HB⟩:=qa6 w [.int .i64 k,.bool a0,.string a1,.int .i64 a2,.bool a3,.string a4,.int .i64 a5,.bool a6,.string a7,.int .i64 a8,.float .f64 x,.float .f64 y] 31 [.complex .f64 c1 c2,.float .f64 r] 85;rw[←hw,←hb];clear hw hb;refine wp_region_list ?_;refine wpList_plain rfl fun K hK=>qag (b:=b) (n:=12) _ rfl rfl B0.out rfl underlying31 rfl (by kernel_rfl) (hK _ _ ?_);clear hK K;have l0:=B1.out.c 0 rfl;have l1:=B1.out.c 1 rfl;go_wp2_with (go_at_call 98;(with_reducible refine(TEL.out _).mono ?_);rintro e w2 ⟨rfl,hk2⟩)
   exact bodyPost_ret (v:=.int .u8 2) (by simp[results,results59,go_sem]) rfl ⟨by show Ending.returned _=Ending.returned (.int .u8 V);rw[HV.out],K1.out.trans' hk2⟩
  ·have HV:=qh (show V=0 by rw[hV,if_neg t1,if_neg t2];rfl)
   have t3:(T != 1)=true:=by simpa using t1
   have t4:(T != 2)=true:=by simpa using t2
   clear hV hok;go_enter func59,ntmps59
   go_upto_region 1 with fail
   obtain⟨b,w1,hw,hb,B0,B1,K1,HB⟩:=qa6 w [.int .i64 k,.bool a0,.string a1,.int .i64 a2,.bool a3,.string a4,.int .i64 a5,.bool a6,.string a7,.int .i64 a8,.float .f64 x,.float .f64 y] 31 [.complex .f64 c1 c2,.float .f64 r] 85;rw[←hw,←hb];clear hw hb;refine wp_region_list ?_;refine wpList_plain rfl fun K hK=>qag (b:=b) (n:=12) _ rfl rfl B0.out rfl underlying31 rfl (by kernel_rfl) (hK _ _ ?_);clear hK K;have l0:=B1.out.c 0 rfl;have l1:=B1.out.c 1 rfl;go_wp2_with (go_at_call 98;(with_reducible refine(TEL.out _).mono ?_);rintro e w2 ⟨rfl,hk2⟩)
   exact bodyPost_ret (v:=.int .u8 0) (by simp[results,results59,go_sem]) rfl ⟨by show Ending.returned _=Ending.returned (.int .u8 V);rw[HV.out],K1.out.trans' hk2⟩
theorem qjI (v : Value) (w : World) : (Go.method 377 31 v "Tell").run prog w = .ok (98, v) w := by kernel_rfl
attribute [local go_sem] qjI
theorem qlz (u:RuD) (hok:u.ok) (c1 c2 r:Nat) (h1:c1<18446744073709551616) (h2:c2<18446744073709551616) (h3:r<18446744073709551616) (w:World):
  Calls prog 32 #[.iface 31 (.agg (ruL u).toArray),.agg #[.complex .f64 c1 c2,.float .f64 r]] w fun en w'=>en=.returned (.int .u8 (qhg u c1 c2 r))∧Kept w w':=by
 have TEL:=qh (fun W=>qi1 u hok c1 c2 r h1 h2 h3 W);obtain⟨V,hV⟩: ∃V:Int,V=(qhg u c1 c2 r:Nat):=⟨_,rfl⟩
 rw[←hV];unfold qhg at hV;generalize qis u c1 c2 r=T at *;generalize(ruL u).toArray=R at *;clear hok;by_cases t1:T=1
 ·subst t1
  have HV:=qh (show V=1 from hV);clear hV;go_enter func32,ntmps32
  go_upto_region 1 with fail
  obtain⟨b,w1,hw,hb,B0,K1,HB⟩:=qa4 w [.complex .f64 c1 c2,.float .f64 r] 85;rw[←hw,←hb];clear hw hb;have l0:=B0.out.c 0 rfl;have l1:=B0.out.c 1 rfl;go_wp2_with (go_at_call 98;(with_reducible refine(TEL.out _).mono ?_);rintro e w2 ⟨rfl,hk2⟩)
  exact bodyPost_ret (v:=.int .u8 1) (by simp[results,results32,go_sem]) rfl ⟨by show Ending.returned _=Ending.returned (.int .u8 V);rw[HV.out],K1.out.trans' hk2⟩
 ·by_cases t2:T=2
  ·subst t2
   have HV:=qh (show V=2 from hV);clear hV;go_enter func32,ntmps32
   go_upto_region 1 with fail
   obtain⟨b,w1,hw,hb,B0,K1,HB⟩:=qa4 w [.complex .f64 c1 c2,.float .f64 r] 85;rw[←hw,←hb];clear hw hb;have l0:=B0.out.c 0 rfl;have l1:=B0.out.c 1 rfl;go_wp2_with (go_at_call 98;(with_reducible refine(TEL.out _).mono ?_);rintro e w2 ⟨rfl,hk2⟩)
   exact bodyPost_ret (v:=.int .u8 2) (by simp[results,results32,go_sem]) rfl ⟨by show Ending.returned _=Ending.returned (.int .u8 V);rw[HV.out],K1.out.trans' hk2⟩
  ·have HV:=qh (show V=0 by rw[hV,if_neg t1,if_neg t2];rfl)
   have t3:(T==1)=false:=by simpa using t1
   have t4:(T==2)=false:=by simpa using t2
   clear hV;go_enter func32,ntmps32
   go_upto_region 1 with fail
   obtain⟨b,w1,hw,hb,B0,K1,HB⟩:=qa4 w [.complex .f64 c1 c2,.float .f64 r] 85;rw[←hw,←hb];clear hw hb;have l0:=B0.out.c 0 rfl;have l1:=B0.out.c 1 rfl;go_wp2_with (go_at_call 98;(with_reducible refine(TEL.out _).mono ?_);rintro e w2 ⟨rfl,hk2⟩)
   exact bodyPost_ret (v:=.int .u8 0) (by simp[results,results32,go_sem]) rfl ⟨by show Ending.returned _=Ending.returned (.int .u8 V);rw[HV.out],K1.out.trans' hk2⟩
def qnz (c:Int):Nat:=if c=105 then 1 else if c=111 then 2 else 0
theorem qny (c:Int) (w:World):Calls prog 38 #[.int .u8 c] w fun en w'=>en=.returned (.int .u8 (qnz c))∧w'=w:=by
 unfold qnz;by_cases t1:c=105
 ·subst t1
  go_enter func38,ntmps38
  go_wp2
  go_ret
  exact⟨rfl,rfl⟩
 ·by_cases t2:c=111
  ·subst t2
   go_enter func38,ntmps38
   go_wp2
   go_ret
   exact⟨rfl,rfl⟩
  ·rw [if_neg t1,if_neg t2]
   go_enter func38,ntmps38
   go_wp2
   go_ret
   exact⟨rfl,rfl⟩
end
section
set_option maxHeartbeats 3200000
set_option maxRecDepth 100000
attribute [local go_sem] run_float_arith qaM qaN qaw qaf qad
theorem sub_self {x:Nat} (hx:x<18446744073709551616) (h:qb6 x=true):floatBits .sub .f64 x x=some 0:=by
 show Ieee.double.sub x x=some 0;unfold Ieee.Format.sub;rw[qcz hx h];generalize decide (SG≤x)=s;generalize qat x=m;generalize qbj x=e
 have hs:(Ieee.Datum.number s m e).sum (Ieee.Datum.number s m e).opposite=some (.number false 0 e):=by
  show Ieee.Datum.sum (.number s m e) (.number (!s) m e)=_;unfold Ieee.Datum.sum
  have h0:Ieee.signed s m (e-min e e).toNat+Ieee.signed (!s) m (e-min e e).toNat=0:=by
   simp only[qdw];cases s
   ·simp [qb5];omega
   ·simp [qb5];omega
  simp only[h0];rw[Int.min_self];cases s<;>rfl
 rw[hs];rfl
theorem qju (x:Nat) (hx:x<18446744073709551616) (h:qb6 x=true) (w:World):Calls prog 114 #[.float .f64 x] w fun e w'=>e=.returned (.bool true)∧w=w':=by
 have hs:=sub_self hx h;have ho:(FloatKind.f64.format.order 0 0==some .eq)=true:=by decide
 go_enter func114,ntmps114
 go_wp2
 go_ret
 exact⟨rfl,rfl⟩
abbrev qnB (κ:Nat):Value:=.func (.func 112) #[] #[.pointer (some ⟨κ,0,none⟩)]
theorem qmh (n:DyD) (κ x:Nat) (w:World) (hκ:Bx w κ (LC0 n.neg n.n n.e)) (hn:qae n=true) (hx:x<9223372036854775808) (hT:T32 w):
  Calls prog 112 #[.int .i64 (x:Int),.pointer (some ⟨κ,0,none⟩)] w fun en w'=>en=.returned (.bool (qa7 n x))∧Kept w w':=by
 have FL:Hid (∀W,Kept w W→Calls prog 101 #[.float .f64 x] W fun en w'=>en=.returned (qai (qa3 x))∧Kept W w'):=fun W h=>qfg x W (by omega) (hT.kept h);have h1:qae (qa3 x).1=true:=qfP x;unfold qa7;generalize qa3 x=F at *;have MUL:Hid (∀W,Kept w W→Calls prog 97 #[.agg #[.bool F.1.neg,.string F.1.n,.int .i64 F.1.e],.agg #[.bool F.1.neg,.string F.1.n,.int .i64 F.1.e]] W fun en w'=>en=.returned (qai (mulS F.1 F.1))∧Kept W w'):=fun W h=>qhe F.1 F.1 W h1 h1 (hT.kept h);have h2:=qdf F.1 F.1;generalize mulS F.1 F.1=M at *;have CMP:=qh (fun W=>qii M.1 n W h2 hn);generalize qdk M.1 n=k at *;obtain⟨⟨f0,f1,f2⟩,f3⟩:=F;obtain⟨⟨m0,m1,m2⟩,m3⟩:=M;obtain⟨n0,n1,n2⟩:=n;simp only at FL MUL CMP hκ⊢;have HK:=qh hκ;have ew:IntKind.u64.wrap (x:Int)=(x:Int):=by rw[IntKind.wrap_u64];omega
 clear h1 h2 hn hκ hT;go_enter func112,ntmps112
 go_upto_region 2 with (go_at_call 101;(with_reducible refine(FL.out _ (Below.refl _ _)).mono ?_);rintro e w3 ⟨rfl,hk3⟩)
 have K4:=qh (Kept.new hk3 (.cells (LC0 f0 f1 f2).toArray 24));have B1:=qh (Bx.new w3 (LC0 f0 f1 f2) 24 w3.heap.size rfl);obtain⟨g,hg⟩: ∃g,g=w3.heap.size:=⟨_,rfl⟩
 rw[←hg]at B1⊢;clear hg hk3 FL;generalize(w3.alloc (.cells (LC0 f0 f1 f2).toArray 24))=w4 at *;obtain⟨c0,c1,c2⟩:=B1.out.c3;go_upto_region 3 with (go_at_call 97;(with_reducible refine(MUL.out _ K4.out).mono ?_);rintro e w5 ⟨rfl,hk5⟩)
 have K6:=qh (Kept.new (K4.out.trans' hk5) (.cells (LC0 m0 m1 m2).toArray 24));have B2:=qh (Bx.new w5 (LC0 m0 m1 m2) 24 w5.heap.size rfl);obtain⟨g2,hg2⟩: ∃g,g=w5.heap.size:=⟨_,rfl⟩
 rw[←hg2]at B2⊢;clear hg2 hk5 MUL K4 B1 c0 c1 c2;generalize(w5.alloc (.cells (LC0 m0 m1 m2).toArray 24))=w6 at *;obtain⟨c0,c1,c2⟩:=(HK.out.kept K6.out).c3;obtain⟨d0,d1,d2⟩:=B2.out.c3;go_wp2_with (go_at_call 69;(with_reducible refine(CMP.out _).mono ?_);rintro e w7 ⟨rfl,hk7⟩)
 go_ret
 exact⟨rfl,K6.out.trans' hk7⟩
theorem ql7 {i j h:Nat} (hi:i<9223372036854775808) (hj:j<9223372036854775808) (hh:h=(i+j) / 2):wrap64 (IntKind.u64.wrap (wrap64 ((i:Int)+j)) / 2)=(h:Int):=by
 rw[IntKind.wrap_u64];unfold wrap64;omega
theorem qoA {N:Nat} (h:N<9223372036854775808):N-0<2 ^ 64:=by
 rw[show(2:Nat) ^ 64=18446744073709551616 by decide];omega
theorem qn3 {i j k:Nat} (h:j-i<2 ^ (k+1)) (hij:i<j):(i+j) / 2-i<2 ^ k∧j-((i+j) / 2+1)<2 ^ k:=by
 rw[Nat.pow_succ]at h;omega
theorem qk5 (f:Nat→Bool) (κ N:Nat) (w:World) (hN:N<9223372036854775000) (hf: ∀x W,x<N→Kept w W→Calls prog 112 #[.int .i64 (x:Int),.pointer (some ⟨κ,0,none⟩)] W fun en w'=>en=.returned (.bool (f x))∧Kept W w'):
  Calls prog 113 #[.int .i64 (N:Int),qnB κ] w fun en w'=>en=.returned (.int .i64 (qaR f 64 0 N:Nat))∧Kept w w':=by
 have HF:=qh hf;obtain⟨R,hR⟩: ∃R,R=qaR f 64 0 N:=⟨_,rfl⟩
 rw[←hR];have HR:=qh hR;have H64:=qh (qoA (N:=N) (by omega));clear hf hR;go_enter func113,ntmps113
 go_wp2_with fail
 go_loopg [5,6,7] 64 (fun gh v5 v6 v7 wr=> ∃i j:Nat,v5=.int .i64 (i:Int)∧v6=.int .i64 (j:Int)∧i≤j∧j≤N∧j-i<2 ^ gh∧qaR f gh i j=R∧Kept w wr)
 case atStart=>exact⟨0,N,rfl,rfl,Nat.zero_le _,Nat.le_refl _,H64.out,HR.out.symm,Below.refl _ _⟩
 case round=>
  obtain⟨i,j,rfl,rfl,hij,hjN,hp,hs,hk⟩:=hrel;have HK:=qh hk;have HS:=qh hs;clear hk hs;by_cases hlt:i<j
  ·cases gk with
   |zero=>simp at hp;omega
   |succ gh=>
    have hi1:(i:Int)<j:=by omega
    obtain⟨h1,h2⟩:=qn3 hp hlt;obtain⟨h,hh⟩: ∃h:Nat,h=(i+j) / 2:=⟨_,rfl⟩
    have hhI:((i:Int)+j) / 2=(h:Int):=by omega
    have hiB:i<9223372036854775808:=by omega
    have hjB:j<9223372036854775808:=by omega
    have HH:=qh (And.intro hh (And.intro h1 h2));have hhN:h<N:=by omega
    have hb1:i≤h:=by omega
    have hb2:h<j:=by omega
    have HST:Hid ((if f h then qaR f gh i h else qaR f gh (h+1) j)=R):=by
     have:=HS.out;unfold qaR at this;rw[if_pos hlt,←hh]at this;exact this
    have CF:Hid (Calls prog 112 #[.int .i64 (h:Int),.pointer (some ⟨κ,0,none⟩)] wr fun en w'=>en=.returned (.bool (f h))∧Kept wr w'):=HF.out h wr hhN HK.out;have hw:wrap64 (IntKind.u64.wrap (wrap64 ((i:Int)+j)) / 2)=(h:Int):=ql7 hiB hjB hh;clear hh h1 h2 hp HS;cases hfh:f h with
    |true=>
     have HST2:=qh (show qaR f gh i h=R by have:=HST.out;rw[hfh]at this;exact this);rw[hfh]at CF;go_wp2_with (go_at_call 112;(with_reducible refine CF.out.mono ?_);rintro e w3 ⟨rfl,hk3⟩)
     go_roundg gh
     case measure=>omega
     case rel=>exact⟨i,h,rfl,rfl,by omega,by omega,by have:=HH.out;omega,HST2.out,HK.out.trans' hk3⟩
    |false=>
     have HST2:=qh (show qaR f gh (h+1) j=R by have:=HST.out;rw[hfh]at this;exact this);rw[hfh]at CF;go_wp2_with (go_at_call 112;(with_reducible refine CF.out.mono ?_);rintro e w3 ⟨rfl,hk3⟩)
     go_roundg gh
     case measure=>omega
     case rel=>exact⟨h+1,j,by go_num,rfl,by omega,by omega,by have:=HH.out;omega,HST2.out,HK.out.trans' hk3⟩
  ·have hi1: ¬(i:Int)<j:=by omega
   have HST:=qh (show i=R by
    have:=HS.out;cases gk with
    |zero=>exact this
    |succ gh=>unfold qaR at this;rw[if_neg hlt]at this;exact this)
   clear hp HS;go_wp2_with fail
   go_ret
   exact⟨qaW (by rw[HST.out]),HK.out⟩
theorem qo (n:DyD) (w:World) (hn:qae n=true) (hT:T32 w):
  Calls prog 70 #[.agg #[.bool n.neg,.string n.n,.int .i64 n.e]] w fun en w'=>en=.returned (if qa7 n qbF then .tuple #[.float .f64 (qaR (qa7 n) 64 0 qbF),.bool true]else .tuple #[.float .f64 0,.bool false])∧Kept w w':=by
 obtain⟨V,hV⟩: ∃V:Value,V=if qa7 n qbF then .tuple #[.float .f64 (qaR (qa7 n) 64 0 qbF),.bool true]else .tuple #[.float .f64 0,.bool false]:=⟨_,rfl⟩
 rw[←hV];have RF:Hid (∀ (κ x:Nat) W,Kept w W→Bx W κ (LC0 n.neg n.n n.e)→x<9223372036854775808→Calls prog 112 #[.int .i64 (x:Int),.pointer (some ⟨κ,0,none⟩)] W fun en w'=>en=.returned (.bool (qa7 n x))∧Kept W w'):=fun κ x W h hb hx=>qmh n κ x W hb hn hx (hT.kept h);have hso:=fun(h:qa7 n qbF=true)=>qf9 (f:=qa7 n) 64 0 qbF (by omega) (by decide) h;have hmf: ∀(κ:Nat) (W:World),(Instr.makeFunc (.func 112) #[] #[.pointer (some ⟨κ,0,none⟩)]).run prog W=.ok (qnB κ) W:=fun _ _=>rfl;generalize qa7 n=f at *;obtain⟨n0,n1,n2⟩:=n;simp only at RF⊢;have HV:=qh hV;have HSO:=qh hso;clear hV hso hn hT;go_enter func70,ntmps70
 go_upto_region 1 with fail
 obtain⟨b,w1,hw,hb,B0,K1,HB⟩:=qa4 w (LC0 n0 n1 n2) 24;rw[←hw,←hb];clear hw hb;have C0:Hid (Calls prog 112 #[.int .i64 9218868437227405311,.pointer (some ⟨b,0,none⟩)] w1 fun en w'=>en=.returned (.bool (f qbF))∧Kept w1 w'):=RF.out b qbF w1 K1.out B0.out (by decide);cases hr:f qbF with
 |false=>
  rw[hr]at C0;have HV2:=qh (show V=.tuple #[.float .f64 0,.bool false] by rw[HV.out,hr];rfl);go_wp2_with (go_at_call 112;(with_reducible refine C0.out.mono ?_);rintro e w3 ⟨rfl,hk3⟩)
  exact bodyPost_ret (v:=.tuple #[.float .f64 0,.bool false]) (by simp[results,results70,go_sem]) rfl ⟨by rw[HV2.out],K1.out.trans' hk3⟩
 |true=>
  rw[hr]at C0;have HV2:=qh (show V=.tuple #[.float .f64 (qaR f 64 0 qbF),.bool true] by rw[HV.out,hr];rfl);obtain⟨s,hs⟩: ∃s,s=qaR f 64 0 qbF:=⟨_,rfl⟩
  have hsM:s≤9218868437227405311:=by rw[hs];exact(HSO.out hr).2.2
  have hfin:qb6 s=true:=qpq hsM;have FIN:=qh (fun W=>qju s (by omega) hfin W)
  have SE:Hid (∀W,Kept w1 W→Calls prog 113 #[.int .i64 9218868437227405311,qnB b] W fun en w'=>en=.returned (.int .i64 (s:Int))∧Kept W w'):=fun W h=>by
   rw[hs];exact qk5 f b qbF W (by decide) (fun x W' hx hW'=>RF.out b x W' ((K1.out.trans' h).trans' hW') ((B0.out.kept h).kept hW') (by unfold qbF at hx;omega))
  rw[←hs]at HV2;have ew:IntKind.u64.wrap (s:Int)=(s:Int):=by rw[IntKind.wrap_u64];omega
  clear hs hfin
  go_wp2_with (first
   |(go_at_call 112;(with_reducible refine C0.out.mono ?_);rintro e w3 ⟨rfl,hk3⟩;have K3:=qh hk3;clear hk3)
   |(go_at_call 113;(with_reducible refine(SE.out _ K3.out).mono ?_);rintro e w4 ⟨rfl,hk4⟩;have K4:=qh (K3.out.trans' hk4);clear hk4)
   |(go_at_call 114;(with_reducible refine(FIN.out _).mono ?_);rintro e w5 ⟨rfl,rfl⟩))
  exact bodyPost_ret (v:=.tuple #[.float .f64 s,.bool true]) (by simp[results,results70,go_sem]) rfl ⟨by rw[HV2.out],K1.out.trans' K4.out⟩
end
end Go.Proofs.YtfdnledkcongaaaGreatDoor
