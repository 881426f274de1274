/- Texts of one claim laid together: VieG, TreM, TreA, TreB, TreC, VieF. -/
import Derived.Test.YtfdnledkcongaaaGreatDoorQ9
import Derived.Laws.Cells
set_option linter.all false
namespace Go.Proofs.YtfdnledkcongaaaGreatDoor
open Go.RowKit Go.Proofs.Tryz
section
set_option maxHeartbeats 25600000
set_option maxRecDepth 100000
attribute [local go_sem] run_float_arith qaM qaN qaw qaf qad
abbrev qic (x:BaD×Int):Value:=.tuple #[.agg #[.complex .f64 x.1.re x.1.im,.float .f64 x.1.r],.int .i64 x.2]
theorem qkF (s:SqD) (w:World) (hs:sqB s=true) (hT:T32 w) (hc:qaY s=none):
  Calls prog 31 #[.agg #[.bool s.left.neg,.string s.left.n,.int .i64 s.left.e,.bool s.low.neg,.string s.low.n,.int .i64 s.low.e,.int .i64 s.e]] w fun en w'=>en=.returned (qic (qah s))∧Kept w w':=by
 have HV:=qh (show qah s=(⟨0,0,0⟩,4) by unfold qah;rw[hc]);rw[HV.out]
 have RT:Hid (∀W,Calls prog 54 #[.agg #[.bool s.left.neg,.string s.left.n,.int .i64 s.left.e,.bool s.low.neg,.string s.low.n,.int .i64 s.low.e,.int .i64 s.e]] W fun en w'=>en=.returned (.int .i64 0)∧Kept W w'):=fun W=>by
  have:=qbx s W (qds hs);rwa [hs]at this
 have CO:Hid (∀W,Kept w W→Calls prog 22 #[.agg #[.bool s.left.neg,.string s.left.n,.int .i64 s.left.e,.bool s.low.neg,.string s.low.n,.int .i64 s.low.e,.int .i64 s.e]] W fun en w'=>en=.returned (.tuple #[.agg ZL1.toArray,.int .i64 4])∧Kept W w'):=fun W h=>by
  have:=qgm s W hs (hT.kept h);rwa [hc]at this
 obtain⟨⟨a0,a1,a2⟩,⟨a3,a4,a5⟩,a6⟩:=s;simp only at RT CO⊢;clear hs hc hT HV;go_enter func31,ntmps31
 go_upto_region 1 with fail
 obtain⟨b,w1,hw,hb,B0,B1,K1,HB⟩:=qa6 w (LC3 a0 a1 a2 a3 a4 a5 a6) 26 [.complex .f64 0 0,.float .f64 0] 85;rw[←hw,←hb];clear hw hb;obtain⟨c0,c1,c2,c3,c4,c5,c6⟩:=B0.out.c7;go_upto_region 3 with (go_at_call 54;(with_reducible refine(RT.out _).mono ?_);rintro e w2 ⟨rfl,hk2⟩)
 have K2:=qh hk2;clear hk2 c0 c1 c2 c3 c4 c5 c6 RT;refine wp_region_list ?_;refine wpList_plain rfl fun K hK=>qag (b:=b) (n:=7) _ rfl rfl (B0.out.kept K2.out) rfl underlying26 rfl (by kernel_rfl) (hK _ _ ?_);clear hK K;refine wpList_plain rfl fun K hK=>?_;go_step;(with_reducible refine(CO.out _ (K1.out.trans' K2.out)).mono ?_);rintro e w3 ⟨rfl,hk3⟩
 refine hK _ _ ?_;clear hK K CO;refine wpList_plain rfl fun K hK=>BigFrame.wp_move _ rfl (hK _ _ ?_);clear hK K;refine wpList_plain rfl fun K hK=>?_;go_step;refine hK _ _ ?_;clear hK K;refine wpList_plain rfl fun K hK=>?_;go_step;refine hK _ _ ?_;clear hK K;refine wpList_plain rfl fun K hK=>?_;go_step;refine hK _ _ ?_;clear hK K;have HG:=qh (show w1.heap.size≤w3.heap.size from(K2.out.trans' hk3).size);have K4:=qh (Kept.new (K2.out.trans' hk3) (.cells ZL1.toArray 64));have B2:=qh (Bx.new w3 ZL1 64 w3.heap.size rfl);obtain⟨g,hg⟩: ∃g,g=w3.heap.size:=⟨_,rfl⟩
 rw[←hg]at B2 HG⊢;clear hg hk3;generalize World.alloc w3 _=w4 at *;refine wpList_plain rfl fun K hK=>qaa (b:=g) (n:=24) _ _ rfl rfl rfl B2.out rfl rfl (by kernel_rfl) rfl (hK _ _ ?_);clear hK K;replace B2:=qh (B2.out.row ZL1);replace K4:=qh (Kept.row K4.out HG.out ZL1);generalize World.setRow w4 _ _=w5 at *;refine wpList_plain rfl fun K hK=>?_;go_step;refine hK _ _ ?_;clear hK K;obtain⟨re0,re1⟩:(World.cell? _ ⟨b+1,0,none⟩=some (.complex .f64 0 0))∧(World.cell? _ ⟨b+1,1,none⟩=some (.float .f64 0)):=⟨(B1.out.kept K4.out).c 0 rfl,(B1.out.kept K4.out).c 1 rfl⟩
 obtain⟨rf0,rf1⟩:(World.frozen? _ ⟨b+1,0,none⟩=false)∧(World.frozen? _ ⟨b+1,1,none⟩=false):=⟨(B1.out.kept K4.out).f 0,(B1.out.kept K4.out).f 1⟩
 go_wp2_with fail
 exact bodyPost_ret (v:=.tuple #[.agg #[.complex .f64 0 0,.float .f64 0],.int .i64 4]) (by simp[results,results31,go_sem,re0,re1]) rfl ⟨rfl,((K1.out.trans' K4.out).set (b:=b+1) (by have:=HB.out;omega) 0 _).set (b:=b+1) (by have:=HB.out;omega) 1 _⟩
theorem qlu (s:SqD) (X Y:DyD) (w:World) (hs:sqB s=true) (hT:T32 w) (hX:qae X=true) (hY:qae Y=true) (hc:qaY s=some [⟨s.left,s.low⟩,⟨X,s.low⟩,⟨s.left,Y⟩,⟨X,Y⟩]):
  Calls prog 31 #[.agg #[.bool s.left.neg,.string s.left.n,.int .i64 s.left.e,.bool s.low.neg,.string s.low.n,.int .i64 s.low.e,.int .i64 s.e]] w fun en w'=>en=.returned (qic (qah s))∧Kept w w':=by
 have RT:Hid (∀W,Calls prog 54 #[.agg #[.bool s.left.neg,.string s.left.n,.int .i64 s.left.e,.bool s.low.neg,.string s.low.n,.int .i64 s.low.e,.int .i64 s.e]] W fun en w'=>en=.returned (.int .i64 0)∧Kept W w'):=fun W=>by
  have:=qbx s W (qds hs);rwa [hs]at this
 have CO:Hid (∀W,Kept w W→Calls prog 22 #[.agg #[.bool s.left.neg,.string s.left.n,.int .i64 s.left.e,.bool s.low.neg,.string s.low.n,.int .i64 s.low.e,.int .i64 s.e]] W fun en w'=>en=.returned (.tuple #[.agg #[.bool s.left.neg,.string s.left.n,.int .i64 s.left.e,.bool s.low.neg,.string s.low.n,.int .i64 s.low.e,.bool X.neg,.string X.n,.int .i64 X.e,.bool s.low.neg,.string s.low.n,.int .i64 s.low.e,.bool s.left.neg,.string s.left.n,.int .i64 s.left.e,.bool Y.neg,.string Y.n,.int .i64 Y.e,.bool X.neg,.string X.n,.int .i64 X.e,.bool Y.neg,.string Y.n,.int .i64 Y.e],.int .i64 0])∧Kept W w'):=fun W h=>by
  have:=qgm s W hs (hT.kept h);rwa [hc]at this
 have MID:Hid (∀W,Kept w W→Calls prog 64 #[.agg #[.bool s.left.neg,.string s.left.n,.int .i64 s.left.e,.bool s.low.neg,.string s.low.n,.int .i64 s.low.e,.int .i64 s.e]] W fun en w'=>en=.returned (qaF (qbB s))∧Kept W w'):=fun W h=>qkV s W hs (hT.kept h);have HT:=qh hT;have HM:(qbB s).2=0∨qbB s=(zG,4):=qeY _ _;have hMo:gsB (qbB s).1=true:=qgH hs;obtain⟨hs1,hs2,-,-⟩:=qax.1 hs;have NEAR:=qh (fun W=>qm1 (qbB s).1 W hMo);have hP:qaU (qbB s).1.re<18446744073709551616:=qeg (qan.1 hMo).1;have hQ:qaU (qbB s).1.im<18446744073709551616:=qeg (qan.1 hMo).2;have CPX:Hid (∀W,Kept w W→Calls prog 66 #[.complex .f64 (qaU (qbB s).1.re) (qaU (qbB s).1.im)] W fun en w'=>en=.returned (qaF (qbI (qaU (qbB s).1.re) (qaU (qbB s).1.im)))∧Kept W w'):=fun W h=>qiL _ _ W hP hQ (hT.kept h);obtain⟨V,hE⟩: ∃V,V=qah s:=⟨_,rfl⟩
 rw[←hE];unfold qah at hE;rw[hc]at hE;simp only at hE;generalize qbB s=M at *;generalize qaU M.1.re=P at *;generalize qaU M.1.im=Q at *;have hZ:=qjr P Q;have hZo:gsB (qbI P Q).1=true:=qiB P Q;have hZe:(qbI P Q).2=0∨(qbI P Q).2=5:=by unfold qbI;split;exact .inl rfl;exact .inr rfl
 obtain⟨F,hF⟩: ∃F,F=qd7 ⟨(qa3 P).1,(qa3 Q).1⟩ [⟨s.left,s.low⟩,⟨X,s.low⟩,⟨s.left,Y⟩,⟨X,Y⟩] zD:=⟨_,rfl⟩
 rw[←hF]at hE;have HC0:=qh (show M.2≠0→V=(⟨0,0,0⟩,4)from fun h=>by rw[hE,if_neg h]);have HC1:=qh (show M.2=0→(qbI P Q).2≠0→V=(⟨0,0,0⟩,5)from fun h h2=>by rw[hE,if_pos h,if_neg (fun h3=>h2 (hZ.1 h3))]);have HC2:=qh (show M.2=0→(qbI P Q).2=0→F=none→V=(⟨0,0,0⟩,4)from fun h h2 h3=>by rw[hE,if_pos h,if_pos (hZ.2 h2).1,h3]);have HC3:=qh (show M.2=0→(qbI P Q).2=0→∀n,F=some n→qa7 n qbF=false→V=(⟨0,0,0⟩,5)from fun h h2 n h3 h4=>by rw[hE,if_pos h,if_pos (hZ.2 h2).1,h3];simp only;rw[h4];rfl);have HC4:=qh (show M.2=0→(qbI P Q).2=0→∀n,F=some n→qa7 n qbF=true→V=(⟨P,Q,qaR (qa7 n) 64 0 qbF⟩,0)from fun h h2 n h3 h4=>by rw[hE,if_pos h,if_pos (hZ.2 h2).1,h3];simp only;rw[h4];rfl);have HFZ:=qh (show(qbI P Q).2=0→F=qd7 (qbI P Q).1 [⟨s.left,s.low⟩,⟨X,s.low⟩,⟨s.left,Y⟩,⟨X,Y⟩] zD from fun h=>by rw[hF,(hZ.2 h).2]);clear hE hZ hF;generalize qbI P Q=Z at *;obtain⟨⟨a0,a1,a2⟩,⟨a3,a4,a5⟩,a6⟩:=s;obtain⟨x0,x1,x2⟩:=X;obtain⟨y0,y1,y2⟩:=Y;obtain⟨⟨⟨m0,m1,m2⟩,⟨m3,m4,m5⟩⟩,m6⟩:=M;obtain⟨⟨⟨z0,z1,z2⟩,⟨z3,z4,z5⟩⟩,z6⟩:=Z;simp only at RT CO MID HM NEAR CPX HC0 HC1 HC2 HC3 HC4 HFZ hZo hZe hs1 hs2⊢;have hm:m6=0∨m6=4:=HM.imp id (fun h=>(Prod.mk.inj h).2);have HO:=qh (And.intro hs1 (And.intro hs2 (And.intro hX hY)));clear hs hc HM hMo hs1 hs2 hX hY hT;go_enter func31,ntmps31
 go_upto_region 1 with fail
 obtain⟨b,w1,hw,hb,B0,B1,K1,HB⟩:=qa6 w (LC3 a0 a1 a2 a3 a4 a5 a6) 26 [.complex .f64 0 0,.float .f64 0] 85;rw[←hw,←hb];clear hw hb;obtain⟨c0,c1,c2,c3,c4,c5,c6⟩:=B0.out.c7;go_upto_region 3 with (go_at_call 54;(with_reducible refine(RT.out _).mono ?_);rintro e w2 ⟨rfl,hk2⟩)
 have K2:=qh hk2;clear hk2 c0 c1 c2 c3 c4 c5 c6 RT;refine wp_region_list ?_;refine wpList_plain rfl fun K hK=>qag (b:=b) (n:=7) _ rfl rfl (B0.out.kept K2.out) rfl underlying26 rfl (by kernel_rfl) (hK _ _ ?_);clear hK K;refine wpList_plain rfl fun K hK=>?_;go_step;(with_reducible refine(CO.out _ (K1.out.trans' K2.out)).mono ?_);rintro e w3 ⟨rfl,hk3⟩
 refine hK _ _ ?_;clear hK K CO;refine wpList_plain rfl fun K hK=>BigFrame.wp_move _ rfl (hK _ _ ?_);clear hK K;refine wpList_plain rfl fun K hK=>?_;go_step;refine hK _ _ ?_;clear hK K;refine wpList_plain rfl fun K hK=>?_;go_step;refine hK _ _ ?_;clear hK K;refine wpList_plain rfl fun K hK=>?_;go_step;refine hK _ _ ?_;clear hK K;have HG:=qh (show w1.heap.size≤w3.heap.size from(K2.out.trans' hk3).size);have K4:=qh (Kept.new (K2.out.trans' hk3) (.cells ZL1.toArray 64));have B2:=qh (Bx.new w3 ZL1 64 w3.heap.size rfl);obtain⟨g,hg⟩: ∃g,g=w3.heap.size:=⟨_,rfl⟩
 rw[←hg]at B2 HG⊢;clear hg hk3;generalize World.alloc w3 _=w4 at *;refine wpList_plain rfl fun K hK=>qaa (b:=g) (n:=24) _ _ rfl rfl rfl B2.out rfl rfl (by kernel_rfl) rfl (hK _ _ ?_);clear hK K;replace B2:=qh (B2.out.row (LC4 a0 a1 a2 a3 a4 a5 x0 x1 x2 a3 a4 a5 a0 a1 a2 y0 y1 y2 x0 x1 x2 y0 y1 y2));replace K4:=qh (Kept.row K4.out HG.out (LC4 a0 a1 a2 a3 a4 a5 x0 x1 x2 a3 a4 a5 a0 a1 a2 y0 y1 y2 x0 x1 x2 y0 y1 y2));generalize World.setRow w4 _ _=w5 at *;refine wpList_plain rfl fun K hK=>?_;go_step;refine hK _ _ ?_;clear hK K;obtain⟨c0,c1,c2,c3,c4,c5,c6⟩:=(B0.out.kept K4.out).c7;go_upto_region 7 with (go_at_call 64;(with_reducible refine(MID.out _ (K1.out.trans' K4.out)).mono ?_);rintro e w6 ⟨rfl,hk6⟩)
 have K7:=qh (Kept.new (K4.out.trans' hk6) (.cells (LC1 m0 m1 m2 m3 m4 m5).toArray 28));have B3:=qh (Bx.new w6 (LC1 m0 m1 m2 m3 m4 m5) 28 w6.heap.size rfl);replace B2:=qh ((B2.out.kept hk6).kept (Kept.new (Below.refl _ _) (.cells (LC1 m0 m1 m2 m3 m4 m5).toArray 28)));obtain⟨g2,hg⟩: ∃g,g=w6.heap.size:=⟨_,rfl⟩
 rw[←hg]at B3⊢;clear hg hk6;generalize(w6.alloc (.cells (LC1 m0 m1 m2 m3 m4 m5).toArray 28))=w7 at *;clear c0 c1 c2 c3 c4 c5 c6 MID;rcases hm with rfl|rfl;rotate_left
 ·have HE:=qh (show V=(⟨0,0,0⟩,4)from by have h9:=HC0.out;simp at h9;exact h9)
  obtain⟨re0,re1⟩:(World.cell? _ ⟨b+1,0,none⟩=some (.complex .f64 0 0))∧(World.cell? _ ⟨b+1,1,none⟩=some (.float .f64 0)):=⟨(B1.out.kept K7.out).c 0 rfl,(B1.out.kept K7.out).c 1 rfl⟩
  obtain⟨rf0,rf1⟩:(World.frozen? _ ⟨b+1,0,none⟩=false)∧(World.frozen? _ ⟨b+1,1,none⟩=false):=⟨(B1.out.kept K7.out).f 0,(B1.out.kept K7.out).f 1⟩
  go_wp2_with fail
  exact bodyPost_ret (v:=.tuple #[.agg #[.complex .f64 0 0,.float .f64 0],.int .i64 4]) (by simp[results,results31,go_sem,re0,re1]) rfl ⟨by rw[HE.out],((K1.out.trans' K7.out).set (b:=b+1) (by have:=HB.out;omega) 0 _).set (b:=b+1) (by have:=HB.out;omega) 1 _⟩
 obtain⟨c0,c1,c2,c3,c4,c5⟩:=B3.out.c6;go_upto_region 10 with (go_at_call 65;(with_reducible refine(NEAR.out _).mono ?_);rintro e w8 ⟨rfl,hk8⟩)
 have K8:=qh (K7.out.trans' hk8);replace B2:=qh (B2.out.kept hk8);clear hk8 NEAR B3 c0 c1 c2 c3 c4 c5;go_upto_region 11 with (go_at_call 66;(with_reducible refine(CPX.out _ (K1.out.trans' K8.out)).mono ?_);rintro e w9 ⟨rfl,hk9⟩)
 have K10:=qh (Kept.new (K8.out.trans' hk9) (.cells (LC1 z0 z1 z2 z3 z4 z5).toArray 28));have B4:=qh (Bx.new w9 (LC1 z0 z1 z2 z3 z4 z5) 28 w9.heap.size rfl);replace B2:=qh ((B2.out.kept hk9).kept (Kept.new (Below.refl _ _) (.cells (LC1 z0 z1 z2 z3 z4 z5).toArray 28)));obtain⟨g3,hg⟩: ∃g,g=w9.heap.size:=⟨_,rfl⟩
 rw[←hg]at B4⊢;clear hg hk9;generalize(w9.alloc (.cells (LC1 z0 z1 z2 z3 z4 z5).toArray 28))=w10 at *;clear CPX;rcases hZe with rfl|rfl;rotate_left
 ·have HE:=qh (show V=(⟨0,0,0⟩,5)from by have h9:=HC1.out;simp at h9;exact h9)
  obtain⟨re0,re1⟩:(World.cell? _ ⟨b+1,0,none⟩=some (.complex .f64 0 0))∧(World.cell? _ ⟨b+1,1,none⟩=some (.float .f64 0)):=⟨(B1.out.kept K10.out).c 0 rfl,(B1.out.kept K10.out).c 1 rfl⟩
  obtain⟨rf0,rf1⟩:(World.frozen? _ ⟨b+1,0,none⟩=false)∧(World.frozen? _ ⟨b+1,1,none⟩=false):=⟨(B1.out.kept K10.out).f 0,(B1.out.kept K10.out).f 1⟩
  go_wp2_with fail
  exact bodyPost_ret (v:=.tuple #[.agg #[.complex .f64 0 0,.float .f64 0],.int .i64 5]) (by simp[results,results31,go_sem,re0,re1]) rfl ⟨by rw[HE.out],((K1.out.trans' K10.out).set (b:=b+1) (by have:=HB.out;omega) 0 _).set (b:=b+1) (by have:=HB.out;omega) 1 _⟩
 have HF:=qh (show F=qd7 ⟨⟨z0,z1,z2⟩,⟨z3,z4,z5⟩⟩ [⟨⟨a0,a1,a2⟩,⟨a3,a4,a5⟩⟩,⟨⟨x0,x1,x2⟩,⟨a3,a4,a5⟩⟩,⟨⟨a0,a1,a2⟩,⟨y0,y1,y2⟩⟩,⟨⟨x0,x1,x2⟩,⟨y0,y1,y2⟩⟩] zD from by first|exact HFZ.out|exact HFZ.out rfl);clear HFZ HC0 HC1;go_upto_region 14 with fail
 have KB:=qh (Kept.new (Below.refl _ w10) (.cells (LC0 false ⟨#[]⟩ 0).toArray 24));have B5:=qh (Bx.new w10 (LC0 false ⟨#[]⟩ 0) 24 w10.heap.size rfl);obtain⟨q,hq⟩: ∃g,g=w10.heap.size:=⟨_,rfl⟩
 rw[←hq]at B5⊢;have HQ:=qh (show w1.heap.size≤q by have:=K10.out.size;omega);have HGQ:=qh (show g3≠q by have:=B4.out.lt;omega);clear hq;generalize(w10.alloc (.cells (LC0 false ⟨#[]⟩ 0).toArray 24))=w11 at *;replace B2:=qh (B2.out.kept KB.out);replace B4:=qh (B4.out.kept KB.out);replace KB:=qh (K10.out.trans' KB.out);clear K10;refine wp_region_list ?_;refine wpList_plain rfl fun K hK=>qag (b:=g) (n:=24) _ rfl rfl B2.out rfl underlying64 rfl (by kernel_rfl) (hK _ _ ?_);clear hK K;refine wpList_plain rfl fun K hK=>BigFrame.wp_move _ rfl (hK _ _ ?_);clear hK K;obtain⟨L,hL⟩: ∃L:List GsD,L=[⟨⟨a0,a1,a2⟩,⟨a3,a4,a5⟩⟩,⟨⟨x0,x1,x2⟩,⟨a3,a4,a5⟩⟩,⟨⟨a0,a1,a2⟩,⟨y0,y1,y2⟩⟩,⟨⟨x0,x1,x2⟩,⟨y0,y1,y2⟩⟩]:=⟨_,rfl⟩
 rw[←hL]at HF;obtain⟨hs1,hs2,hX,hY⟩:=HO.out;obtain⟨AG,hAG⟩: ∃AG:Array Value,AG=(LC4 a0 a1 a2 a3 a4 a5 x0 x1 x2 a3 a4 a5 a0 a1 a2 y0 y1 y2 x0 x1 x2 y0 y1 y2).toArray:=⟨_,rfl⟩
 have CK:Hid (∀k:Nat,k<4→∃G:GsD,gsB G=true∧L.drop k=G::L.drop (k+1)∧∀W,(Instr.index 64 (.agg AG) (.int .i64 (k:Int))).run prog W=.ok (.agg #[.bool G.re.neg,.string G.re.n,.int .i64 G.re.e,.bool G.im.neg,.string G.im.n,.int .i64 G.im.e]) W):=by
  intro k hk;rw[hL,hAG];rcases(show k=0∨k=1∨k=2∨k=3 by omega)with rfl|rfl|rfl|rfl
  ·exact⟨_,qan.2 ⟨hs1,hs2⟩,rfl,fun W=>by kernel_rfl⟩
  ·exact⟨_,qan.2 ⟨hX,hs2⟩,rfl,fun W=>by kernel_rfl⟩
  ·exact⟨_,qan.2 ⟨hs1,hY⟩,rfl,fun W=>by kernel_rfl⟩
  ·exact⟨_,qan.2 ⟨hX,hY⟩,rfl,fun W=>by kernel_rfl⟩
 have HL4:=qh (show L.drop 4=[] by rw[hL];rfl);clear hL hs1 hs2 hX hY HO;have HZO:=qh hZo;clear hZo B2;rw[←hAG];clear hAG;go_wp2_with fail
 go_loopg [13,14,15,16,17,18,58] 4 (fun gh v13 v14 v15 v16 v17 v18 v58 wr=> ∃(k:Nat) (m:DyD),k+gh=4∧v58=.int .i64 (k:Int)∧qae m=true∧qd7 ⟨⟨z0,z1,z2⟩,⟨z3,z4,z5⟩⟩ (L.drop k) m=F∧Bx wr q (LC0 m.neg m.n m.e)∧Bx wr g3 (LC1 z0 z1 z2 z3 z4 z5)∧Kept w1 wr)
 case atStart=>exact⟨0,zD,by omega,rfl,rfl,HF.out.symm,B5.out,B4.out,KB.out⟩
 case round=>
  clear B4 B5 KB HF;obtain⟨k,m,hkg,rfl,hm,hF,b5,b4,hk⟩:=hrel;have HFF:=qh hF;have HMO:=qh hm;have B5:=qh b5;have B4:=qh b4;have KR:=qh hk;clear hF hm b5 b4 hk;cases gk with
  |zero=>
   obtain rfl:k=4:=by omega
   have HFN:=qh (show F=some m by rw[←HFF.out,HL4.out];rfl);have ROOT:Hid (∀W,Kept w W→Calls prog 70 #[.agg #[.bool m.neg,.string m.n,.int .i64 m.e]] W fun en w'=>en=.returned (if qa7 m qbF then .tuple #[.float .f64 (qaR (qa7 m) 64 0 qbF),.bool true]else .tuple #[.float .f64 0,.bool false])∧Kept W w'):=fun W h=>qo m W HMO.out (HT.out.kept h);obtain⟨m0,m1,m2⟩:=m;simp only at ROOT;obtain⟨c0,c1,c2⟩:=B5.out.c3;cases hr:qa7 ⟨m0,m1,m2⟩ qbF with
   |false=>
    have HE:=qh (show V=(⟨0,0,0⟩,5)from by have h9:=HC3.out;simp at h9;exact h9 _ HFN.out hr);rw[hr]at ROOT;clear hr HC2 HC3 HC4 HFN HFF HMO;go_upto_region 29 with (go_at_call 70;(with_reducible refine(ROOT.out _ (K1.out.trans' KR.out)).mono ?_);rintro e w14 ⟨rfl,hk14⟩)
    have K15:=qh (KR.out.trans' hk14);clear hk14 c0 c1 c2 KR;obtain⟨re0,re1⟩:(World.cell? _ ⟨b+1,0,none⟩=some (.complex .f64 0 0))∧(World.cell? _ ⟨b+1,1,none⟩=some (.float .f64 0)):=⟨(B1.out.kept K15.out).c 0 rfl,(B1.out.kept K15.out).c 1 rfl⟩
    obtain⟨rf0,rf1⟩:(World.frozen? _ ⟨b+1,0,none⟩=false)∧(World.frozen? _ ⟨b+1,1,none⟩=false):=⟨(B1.out.kept K15.out).f 0,(B1.out.kept K15.out).f 1⟩
    go_wp2_with fail
    exact bodyPost_ret (v:=.tuple #[.agg #[.complex .f64 0 0,.float .f64 0],.int .i64 5]) (by simp[results,results31,go_sem,re0,re1]) rfl ⟨by rw[HE.out],((K1.out.trans' K15.out).set (b:=b+1) (by have:=HB.out;omega) 0 _).set (b:=b+1) (by have:=HB.out;omega) 1 _⟩
   |true=>
    obtain⟨rr,hrr⟩: ∃r,r=qaR (qa7 ⟨m0,m1,m2⟩) 64 0 qbF:=⟨_,rfl⟩
    have HE:=qh (show V=(⟨P,Q,rr⟩,0)from by have h9:=HC4.out;simp at h9;rw[hrr];exact h9 _ HFN.out hr);rw[hr,←hrr]at ROOT;clear hr hrr HC2 HC3 HC4 HFN HFF HMO;go_upto_region 30 with (go_at_call 70;(with_reducible refine(ROOT.out _ (K1.out.trans' KR.out)).mono ?_);rintro e w14 ⟨rfl,hk14⟩)
    have K15:=qh (KR.out.trans' hk14);clear hk14 c0 c1 c2 KR;obtain⟨re0,re1⟩:(World.cell? _ ⟨b+1,0,none⟩=some (.complex .f64 0 0))∧(World.cell? _ ⟨b+1,1,none⟩=some (.float .f64 0)):=⟨(B1.out.kept K15.out).c 0 rfl,(B1.out.kept K15.out).c 1 rfl⟩
    obtain⟨rf0,rf1⟩:(World.frozen? _ ⟨b+1,0,none⟩=false)∧(World.frozen? _ ⟨b+1,1,none⟩=false):=⟨(B1.out.kept K15.out).f 0,(B1.out.kept K15.out).f 1⟩
    go_wp2_with fail
    exact bodyPost_ret (v:=.tuple #[.agg #[.complex .f64 P Q,.float .f64 rr],.int .i64 0]) (by simp[results,results31,go_sem,re0,re1]) rfl ⟨by rw[HE.out],((K1.out.trans' K15.out).set (b:=b+1) (by have:=HB.out;omega) 0 _).set (b:=b+1) (by have:=HB.out;omega) 1 _⟩
  |succ gh=>
   obtain⟨G,hG,hdr,hcell⟩:=CK.out k (by omega);have SUB:Hid (∀W,Kept w W→Calls prog 67 #[.agg #[.bool G.re.neg,.string G.re.n,.int .i64 G.re.e,.bool G.im.neg,.string G.im.n,.int .i64 G.im.e],.agg #[.bool z0,.string z1,.int .i64 z2,.bool z3,.string z4,.int .i64 z5]] W fun en w'=>en=.returned (qaF (qeB G ⟨⟨z0,z1,z2⟩,⟨z3,z4,z5⟩⟩))∧Kept W w'):=fun W h=>qoe G ⟨⟨z0,z1,z2⟩,⟨z3,z4,z5⟩⟩ W hG HZO.out (HT.out.kept h);have hS1:=qiA hG HZO.out;have HS:=qho G ⟨⟨z0,z1,z2⟩,⟨z3,z4,z5⟩⟩;have HFE:qd7 ⟨⟨z0,z1,z2⟩,⟨z3,z4,z5⟩⟩ (L.drop k) m=F:=HFF.out;rw[hdr]at HFE;unfold qd7 at HFE;generalize qeB G ⟨⟨z0,z1,z2⟩,⟨z3,z4,z5⟩⟩=S at *;have NRM:Hid (∀W,Kept w W→Calls prog 68 #[.agg #[.bool S.1.re.neg,.string S.1.re.n,.int .i64 S.1.re.e,.bool S.1.im.neg,.string S.1.im.n,.int .i64 S.1.im.e]] W fun en w'=>en=.returned (qai (qca S.1))∧Kept W w'):=fun W h=>qnl S.1 W hS1 (HT.out.kept h);have hN1:=qg9 S.1;have HN:(qca S.1).2=0∨qca S.1=(zD,4):=qgT _ _;generalize qca S.1=N at *;have CMP:=qh (fun W=>qii N.1 m W hN1 HMO.out);generalize qdk N.1 m=cc at *;have HFEE:=qh HFE;have HNO:=qh hN1;obtain⟨⟨t0,t1,t2⟩,⟨t3,t4,t5⟩⟩:=G;obtain⟨⟨⟨s0,s1,s2⟩,⟨s3,s4,s5⟩⟩,s6⟩:=S;obtain⟨⟨n0,n1,n2⟩,n3⟩:=N;obtain⟨m0,m1,m2⟩:=m;simp only at SUB NRM CMP HFEE HNO HMO HS HN hcell;have hs6:s6=0∨s6=4:=HS.imp id (fun h=>(Prod.mk.inj h).2);have hn3:n3=0∨n3=4:=HN.imp id (fun h=>(Prod.mk.inj h).2);clear HFE HS HN hS1 hN1 hdr hG HFF;have hkI:(k:Int)<4:=by omega
   go_upto_region 17 with fail
   have KG:=qh (Kept.new KR.out (.cells (LC1 t0 t1 t2 t3 t4 t5).toArray 28));have BG:=qh (Bx.new wr (LC1 t0 t1 t2 t3 t4 t5) 28 wr.heap.size rfl);replace B4:=qh (B4.out.kept (Kept.new (Below.refl _ _) (.cells (LC1 t0 t1 t2 t3 t4 t5).toArray 28)));replace B5:=qh (B5.out.kept (Kept.new (Below.refl _ _) (.cells (LC1 t0 t1 t2 t3 t4 t5).toArray 28)));obtain⟨gg,hgg⟩: ∃g,g=wr.heap.size:=⟨_,rfl⟩
   rw[←hgg]at BG⊢;clear hgg hcell KR;generalize(World.alloc wr (.cells (LC1 t0 t1 t2 t3 t4 t5).toArray 28))=w12 at *;obtain⟨c0,c1,c2,c3,c4,c5⟩:=BG.out.c6;obtain⟨d0,d1,d2,d3,d4,d5⟩:=B4.out.c6;go_upto_region 18 with (go_at_call 67;(with_reducible refine(SUB.out _ (K1.out.trans' KG.out)).mono ?_);rintro e w13 ⟨rfl,hk13⟩)
   have K14:=qh (Kept.new (KG.out.trans' hk13) (.cells (LC1 s0 s1 s2 s3 s4 s5).toArray 28));have BS:=qh (Bx.new w13 (LC1 s0 s1 s2 s3 s4 s5) 28 w13.heap.size rfl);replace B4:=qh ((B4.out.kept hk13).kept (Kept.new (Below.refl _ _) (.cells (LC1 s0 s1 s2 s3 s4 s5).toArray 28)));replace B5:=qh ((B5.out.kept hk13).kept (Kept.new (Below.refl _ _) (.cells (LC1 s0 s1 s2 s3 s4 s5).toArray 28)));obtain⟨gs,hg⟩: ∃g,g=w13.heap.size:=⟨_,rfl⟩
   rw[←hg]at BS⊢;clear hg hk13;generalize(w13.alloc (.cells (LC1 s0 s1 s2 s3 s4 s5).toArray 28))=w14 at *;clear c0 c1 c2 c3 c4 c5 d0 d1 d2 d3 d4 d5 SUB BG KG;rcases hs6 with rfl|rfl;rotate_left
   ·have HE:=qh (show V=(⟨0,0,0⟩,4)from by
     have h8:=HFEE.out;rw[if_neg (fun h=>absurd h.1 (by decide))]at h8;have h9:=HC2.out;simp at h9;exact h9 h8.symm)
    obtain⟨re0,re1⟩:(World.cell? _ ⟨b+1,0,none⟩=some (.complex .f64 0 0))∧(World.cell? _ ⟨b+1,1,none⟩=some (.float .f64 0)):=⟨(B1.out.kept K14.out).c 0 rfl,(B1.out.kept K14.out).c 1 rfl⟩
    obtain⟨rf0,rf1⟩:(World.frozen? _ ⟨b+1,0,none⟩=false)∧(World.frozen? _ ⟨b+1,1,none⟩=false):=⟨(B1.out.kept K14.out).f 0,(B1.out.kept K14.out).f 1⟩
    go_wp2_with fail
    exact bodyPost_ret (v:=.tuple #[.agg #[.complex .f64 0 0,.float .f64 0],.int .i64 4]) (by simp[results,results31,go_sem,re0,re1]) rfl ⟨by rw[HE.out],((K1.out.trans' K14.out).set (b:=b+1) (by have:=HB.out;omega) 0 _).set (b:=b+1) (by have:=HB.out;omega) 1 _⟩
   obtain⟨c0,c1,c2,c3,c4,c5⟩:=BS.out.c6;go_upto_region 21 with (go_at_call 68;(with_reducible refine(NRM.out _ (K1.out.trans' K14.out)).mono ?_);rintro e w15 ⟨rfl,hk15⟩)
   have K16:=qh (Kept.new (K14.out.trans' hk15) (.cells (LC0 n0 n1 n2).toArray 24));have BN:=qh (Bx.new w15 (LC0 n0 n1 n2) 24 w15.heap.size rfl);replace B4:=qh ((B4.out.kept hk15).kept (Kept.new (Below.refl _ _) (.cells (LC0 n0 n1 n2).toArray 24)));replace B5:=qh ((B5.out.kept hk15).kept (Kept.new (Below.refl _ _) (.cells (LC0 n0 n1 n2).toArray 24)));obtain⟨gn,hg⟩: ∃g,g=w15.heap.size:=⟨_,rfl⟩
   rw[←hg]at BN⊢;clear hg hk15;generalize(w15.alloc (.cells (LC0 n0 n1 n2).toArray 24))=w16 at *;clear c0 c1 c2 c3 c4 c5 NRM BS;rcases hn3 with rfl|rfl;rotate_left
   ·have HE:=qh (show V=(⟨0,0,0⟩,4)from by
     have h8:=HFEE.out;rw[if_neg (fun h=>absurd h.2 (by decide))]at h8;have h9:=HC2.out;simp at h9;exact h9 h8.symm)
    obtain⟨re0,re1⟩:(World.cell? _ ⟨b+1,0,none⟩=some (.complex .f64 0 0))∧(World.cell? _ ⟨b+1,1,none⟩=some (.float .f64 0)):=⟨(B1.out.kept K16.out).c 0 rfl,(B1.out.kept K16.out).c 1 rfl⟩
    obtain⟨rf0,rf1⟩:(World.frozen? _ ⟨b+1,0,none⟩=false)∧(World.frozen? _ ⟨b+1,1,none⟩=false):=⟨(B1.out.kept K16.out).f 0,(B1.out.kept K16.out).f 1⟩
    go_wp2_with fail
    exact bodyPost_ret (v:=.tuple #[.agg #[.complex .f64 0 0,.float .f64 0],.int .i64 4]) (by simp[results,results31,go_sem,re0,re1]) rfl ⟨by rw[HE.out],((K1.out.trans' K16.out).set (b:=b+1) (by have:=HB.out;omega) 0 _).set (b:=b+1) (by have:=HB.out;omega) 1 _⟩
   obtain⟨c0,c1,c2⟩:=B5.out.c3;obtain⟨d0,d1,d2⟩:=BN.out.c3;have HF2:=qh (show qd7 ⟨⟨z0,z1,z2⟩,⟨z3,z4,z5⟩⟩ (L.drop (k+1)) (if 0<cc then⟨n0,n1,n2⟩else⟨m0,m1,m2⟩)=F from by have h8:=HFEE.out;rw[if_pos (by simp)]at h8;exact h8);clear HFEE;by_cases hcc:0<cc
   ·have HF3:=qh (show qd7 ⟨⟨z0,z1,z2⟩,⟨z3,z4,z5⟩⟩ (L.drop (k+1)) ⟨n0,n1,n2⟩=F from by have h8:=HF2.out;rw[if_pos (by omega)]at h8;exact h8)
    clear HF2;go_upto_region 25 with (go_at_call 69;(with_reducible refine(CMP.out _).mono ?_);rintro e w17 ⟨rfl,hk17⟩)
    replace B4:=qh (B4.out.kept hk17);replace B5:=qh (B5.out.kept hk17);replace BN:=qh (BN.out.kept hk17);replace K16:=qh (K16.out.trans' hk17);clear c0 c1 c2 d0 d1 d2 hk17;obtain⟨c0,c1,c2⟩:=B5.out.c3;obtain⟨f0,f1,f2⟩:=B5.out.f3;obtain⟨d0,d1,d2⟩:=BN.out.c3;go_wp2_with fail
    go_roundg gh
    case measure=>omega
    case rel=>
     exact⟨k+1,⟨n0,n1,n2⟩,by omega,by go_num,HNO.out,HF3.out,((B5.out.set 0 _ (by simp)).set 1 _ (by simp)).set 2 _ (by simp),((B4.out.far ⟨q,0,none⟩ HGQ.out _).far ⟨q,1,none⟩ HGQ.out _).far ⟨q,2,none⟩ HGQ.out _,K16.out.qaO HQ.out _ _ _⟩
   ·have HF3:=qh (show qd7 ⟨⟨z0,z1,z2⟩,⟨z3,z4,z5⟩⟩ (L.drop (k+1)) ⟨m0,m1,m2⟩=F from by have h8:=HF2.out;rw[if_neg (by omega)]at h8;exact h8)
    clear HF2;go_wp2_with (go_at_call 69;(with_reducible refine(CMP.out _).mono ?_);rintro e w17 ⟨rfl,hk17⟩;replace B4:=qh (B4.out.kept hk17);replace B5:=qh (B5.out.kept hk17);replace K16:=qh (K16.out.trans' hk17);clear hk17)
    go_roundg gh
    case measure=>omega
    case rel=>
     exact⟨k+1,⟨m0,m1,m2⟩,by omega,by go_num,HMO.out,HF3.out,B5.out,B4.out,K16.out⟩
theorem qhY (s:SqD) (w:World) (hs:sqB s=true) (hT:T32 w):
  Calls prog 31 #[.agg #[.bool s.left.neg,.string s.left.n,.int .i64 s.left.e,.bool s.low.neg,.string s.low.n,.int .i64 s.low.e,.int .i64 s.e]] w fun en w'=>en=.returned (qic (qah s))∧Kept w w':=by
 by_cases h:(qbi s).2=0∧(qbs s).2=0
 ·exact qlu s (qbi s).1 (qbs s).1 w hs hT (qdV _ _ (qax.1 hs).1) (qdV _ _ (qax.1 hs).2.1) (by unfold qaY;rw[if_pos h])
 ·exact qkF s w hs hT (by unfold qaY;rw[if_neg h])
end
section
structure Far (s:Nat→Prop) (w w':World):Prop where
 os:w'.os=w.os
 tape:w'.tape=w.tape
 output:w'.output=w.output
 size:w.heap.size≤w'.heap.size
 block: ∀k,k<w.heap.size→¬s k→w'.heap[k]? =w.heap[k]?
theorem Far.refl (s:Nat→Prop) (w:World):Far s w w:=⟨rfl,rfl,rfl,Nat.le_refl _,fun _ _ _=>rfl⟩
theorem Far.trans {s t:Nat→Prop} {a b c:World} (h:Far s a b) (k:Far t b c) (ht: ∀i,i<a.heap.size→t i→s i):Far s a c:=
 ⟨k.os.trans h.os,k.tape.trans h.tape,k.output.trans h.output,Nat.le_trans h.size k.size,fun i hi hs=>(k.block i (Nat.lt_of_lt_of_le hi h.size) (fun e=>hs (ht i hi e))).trans (h.block i hi hs)⟩
theorem Far.qcc {s:Nat→Prop} {a b:World} (h:Kept a b):Far s a b:=⟨h.os,h.tape,h.output,h.size,fun i hi _=>h.block i hi⟩
theorem Far.then {s:Nat→Prop} {a b c:World} (h:Far s a b) (k:Kept b c):Far s a c:=h.trans (Far.qcc (s:=fun _=>False) k) (fun _ _ e=>e.elim)
theorem Far.qfQ {s:Nat→Prop} {a b:World} {row:Option Nat} (h:a.grownBy b row) (hr: ∀k,row=some k→s k):Far s a b:=
 ⟨h.os,h.tape,h.output,h.size,fun i hi hs=>h.block i hi (fun e=>hs (hr i e.symm))⟩
theorem Far.kept {s:Nat→Prop} {B:Nat} {a b:World} (h:Far s a b) (hB:B≤a.heap.size) (hs: ∀k,k<B→¬s k):Below B a b:=
 ⟨h.os,h.tape,h.output,h.size,fun i hi=>h.block i (Nat.lt_of_lt_of_le hi hB) (hs i hi)⟩
theorem Bx.to {s:Nat→Prop} {w w':World} {b:Nat} {vs:List Value} (h:Bx w b vs) (hf:Far s w w') (hs: ¬s b):Bx w' b vs:=by
 have hl:=h.lt;obtain⟨t,h⟩:=h;exact⟨t,(hf.block b hl hs).trans h⟩
theorem Own.to {s:Nat→Prop} {w w':World} {base size n:Nat} {v:Value} {xs:List Value} (h:Own w base size v n xs) (hf:Far s w w') (hs: ∀k,v.ownBlock=some k→¬s k):Own w' base size v n xs:=
 h.keep hf.size fun g hg o=>by
  have hb:=hf.block g (h.lt g hg).2 (hs g hg);exact⟨World.cell?_of_block (a:=⟨g,o,none⟩) hb,World.frozen?_of_block (a:=⟨g,o,none⟩) hb⟩
theorem T32.to {s:Nat→Prop} {w w':World} (h:T32 w) (hf:Far s w w') (hs: ¬s 1):T32 w':=fun k hk=>by
 have hl:=lt_of_cell (h 0 (by omega));have hb:=hf.block _ hl hs;rw[World.cell?_of_block (a:=⟨1,k,none⟩) hb];exact h k hk
def NdD.kid (n:NdD):Nat×Nat×Nat×Nat:=n.kids.getD (0,0,0,0)
def ndV (n:NdD):List Value:=[.bool n.sq.left.neg,.string n.sq.left.n,.int .i64 n.sq.left.e,.bool n.sq.low.neg,.string n.sq.low.n,.int .i64 n.sq.low.e,.int .i64 n.sq.e,.int .u8 (n.told:Int),.int .i64 (n.depth:Int),.int .i64 (n.kid.1:Int),.int .i64 (n.kid.2.1:Int),.int .i64 (n.kid.2.2.1:Int),.int .i64 (n.kid.2.2.2:Int)]
def qbJ :List NdD→List Value
 |[]=>[]
 |n::l=>ndV n++qbJ l
theorem qaL (n:NdD):(ndV n).length=13:=rfl
theorem qeI : ∀l m:List NdD,qbJ (l++m)=qbJ l++qbJ m
 |[],m=>rfl
 |n::l,m=>by simp only[List.cons_append,qbJ,qeI l m,List.append_assoc]
theorem qeS : ∀(l:List NdD) (k:Nat) (n:NdD) (i:Nat),l[k]? =some n→i<13→(qbJ l)[k*13+i]? =(ndV n)[i]?
 |[],k,n,i,h,_=>by simp at h
 |x::l,0,n,i,h,hi=>by
  have:x=n:=by simpa using h
  subst this;simp only[qbJ,Nat.zero_mul,Nat.zero_add];rw[List.getElem?_append_left (by rw[qaL];exact hi)]
 |x::l,k+1,n,i,h,hi=>by
  have e:(k+1)*13+i=13+(k*13+i):=by omega
  simp only[qbJ];rw[e,List.getElem?_append_right (by rw[qaL];omega),qaL,Nat.add_sub_cancel_left];exact qeS l k n i (by simpa using h) hi
theorem qfM (n:NdD):qbJ [n]=ndV n:=by simp[qbJ]
theorem qf3 (l:List NdD): ∀u∈qbJ l,u.oneCell'=true:=by
 induction l with
 |nil=>intro u h;cases h
 |cons n l ih=>
  intro u h;rcases List.mem_append.1 h with h|h
  ·simp only[ndV,List.mem_cons,List.not_mem_nil,or_false]at h
   rcases h with rfl|rfl|rfl|rfl|rfl|rfl|rfl|rfl|rfl|rfl|rfl|rfl|rfl<;>rfl
  ·exact ih u h
theorem qhV : ∀(l:List NdD) (k:Nat) (n:NdD) (t:Nat),l[k]? =some n→(qbJ l).set (k*13+7) (.int .u8 (t:Int))=qbJ (l.set k {n with told:=t})
 |[],k,n,t,h=>by simp at h
 |x::l,0,n,t,h=>by
  have:x=n:=by simpa using h
  subst this;simp[qbJ,ndV,NdD.kid]
 |x::l,k+1,n,t,h=>by
  have e:(k+1)*13+7=13+(k*13+7):=by omega
  simp only[qbJ,List.set_cons_succ];rw[e,List.set_append_right _ _ (by rw[qaL];omega),qaL,Nat.add_sub_cancel_left,qhV l k n t (by simpa using h)]
theorem qip : ∀(l:List NdD) (k:Nat) (n:NdD) (p q r s:Nat),l[k]? =some n→
  ((((qbJ l).set (k*13+9) (.int .i64 (p:Int))).set (k*13+10) (.int .i64 (q:Int))).set (k*13+11) (.int .i64 (r:Int))).set (k*13+12) (.int .i64 (s:Int))=qbJ (l.set k {n with kids:=some (p,q,r,s)})
 |[],k,n,p,q,r,s,h=>by simp at h
 |x::l,0,n,p,q,r,s,h=>by
  have:x=n:=by simpa using h
  subst this;simp[qbJ,ndV,NdD.kid]
 |x::l,k+1,n,p,q,r,s,h=>by
  have e: ∀i,(k+1)*13+i=13+(k*13+i):=fun i=>by omega
  simp only[qbJ,List.set_cons_succ];rw[e,e,e,e,List.set_append_right _ _ (by rw[qaL];omega),qaL,List.set_append_right _ _ (by rw[qaL];omega),qaL,List.set_append_right _ _ (by rw[qaL];omega),qaL,List.set_append_right _ _ (by rw[qaL];omega),qaL];simp only[Nat.add_sub_cancel_left];rw[qip l k n p q r s (by simpa using h)]
structure NdD.ok (n:NdD):Prop where
 sq:sqB n.sq=true
 told:n.told≤2
 depth:n.depth≤40
structure GoodS (S:StD):Prop where
 nd: ∀(k:Nat) (n:NdD),S.L[k]? =some n→n.ok
 kids:qdX S.L
 count:4*S.n=3*S.L.length+1
 few:S.n≤65536
 pos:0<S.L.length
theorem GoodS.len {S:StD} (h:GoodS S):S.L.length≤87381:=by have:=h.count;have:=h.few;omega
theorem GoodS.part {S:StD} (h:GoodS S) {k:Nat} {n:NdD} {q:SqD×SqD×SqD×SqD} (hs:qav S k=some (n,q)) (hq:sqB q.1=true∧sqB q.2.1=true∧sqB q.2.2.1=true∧sqB q.2.2.2=true) (t:SqD→Nat) (ht: ∀s,t s≤2):GoodS ⟨qaI S.L k n q t,S.n+3⟩:=by
 obtain⟨h1,h2,h3,h4,h5,h6⟩:=qbf hs;have hl:=(List.getElem?_eq_some_iff.1 h1).1;have hn:=h.nd k n h1;refine⟨fun j m hj=>?_,h.kids.grown h1 q t,?_,by show S.n+3≤65536;omega,?_⟩
 ·rcases qf2 hl hj with ⟨rfl,rfl⟩|⟨j1,j2,j3⟩|⟨j1,j2,j3,s,j4,j5,j6⟩
  ·exact⟨hn.sq,hn.told,hn.depth⟩
  ·exact h.nd j m j3
  ·refine⟨?_,?_,?_⟩
   ·rw [j5];rcases j4 with rfl|rfl|rfl|rfl
    ·exact hq.1
    ·exact hq.2.1
    ·exact hq.2.2.1
    ·exact hq.2.2.2
   ·rw [j6];exact ht s
   ·have:=hn.depth;omega
 ·show 4*(S.n+3)=3*(qaI S.L k n q t).length+1
  rw[qbR];have:=h.count;omega
 ·show 0<(qaI S.L k n q t).length
  rw[qbR];omega
structure TrM (W:World) (base p:Nat) (v:Value) (u:RuD) (S:StD):Prop where
 box:Bx W p [.iface 31 (.agg (ruL u).toArray),v,.int .i64 (S.n:Int)]
 own:Own W base 13 v S.L.length (qbJ S.L)
 ge:base≤p
 off: ∀k,v.ownBlock=some k→k≠p
def TrB (p:Nat) (v:Value) (k:Nat):Prop:=k=p∨v.ownBlock=some k
section
variable {W W' : World} {base p : Nat} {v : Value} {u : RuD} {S : StD}
theorem TrM.kept (h:TrM W base p v u S) (hk:Kept W W'):TrM W' base p v u S:=⟨h.box.kept hk,h.own.kept hk,h.ge,h.off⟩
theorem TrM.to {s:Nat→Prop} (h:TrM W base p v u S) (hf:Far s W W') (hs: ∀k,TrB p v k→¬s k):TrM W' base p v u S:=
 ⟨h.box.to hf (hs p (.inl rfl)),h.own.to hf (fun k hk=>hs k (.inr hk)),h.ge,h.off⟩
theorem TrM.form (h:TrM W base p v u S) (hp:0<S.L.length): ∃g off c,v=.slice (some ⟨g,off,none⟩) S.L.length c∧base≤g∧g<W.heap.size∧g≠p∧(∀ (k:Nat) (n:NdD) (i:Nat) (x:Value),S.L[k]? =some n→(ndV n)[i]? =some x→W.cell? ⟨g,off+(k*13+i),none⟩=some x)∧(∀k i,k<S.L.length→i<13→W.frozen? ⟨g,off+(k*13+i),none⟩=false):=by
 rcases h.own.2 with ⟨_,h0⟩|⟨g,off,cap,hv,hb,hg,hnc,hcm,hx,hc⟩
 ·omega
 ·refine⟨g,off,cap,hv,hb,hg,h.off g (by rw[hv];rfl),fun k n i x hk hi=>?_,fun k i hk hi=>?_⟩
  ·have h13:i<13:=(List.getElem?_eq_some_iff.1 hi).1
   exact hx _ _ ((qeS S.L k n i hk h13).trans hi)
  ·have:S.L.length*13≤cap*13:=Nat.mul_le_mul_right _ hnc
   exact(hc _ (by omega)).2
end
end
section
set_option maxRecDepth 100000
theorem qee (w:World):Calls prog 35 #[.pointer none] w fun en w'=>en=.returned (.bool true)∧w'=w:=by
 go_enter func35,ntmps35
 go_wp2
 go_ret
 exact⟨rfl,rfl⟩
theorem qdm {w:World} {base p:Nat} {v:Value} {u:RuD} {S:StD} (h:TrM w base p v u S) (hS:GoodS S):Calls prog 35 #[.pointer (some ⟨p,0,none⟩)] w fun en w'=>en=.returned (.bool false)∧w'=w:=by
 obtain⟨g,off,c,rfl,-⟩:=h.form hS.pos;have c1:=h.box.c 1 rfl;have hl:(((S.L.length:Nat):Int)==0)=false:=beq_eq_false_iff_ne.2 (by have:=hS.pos;omega);generalize S.L.length=n at *;clear h hS;go_enter func35,ntmps35
 go_wp2_with fail
 go_ret
 exact⟨rfl,rfl⟩
theorem eq4 (k0 k1 k2 k3:Int) (W:World):(Op.equalIn 10000 89 (.agg #[.int .i64 k0,.int .i64 k1,.int .i64 k2,.int .i64 k3]) (.agg #[.int .i64 0,.int .i64 0,.int .i64 0,.int .i64 0])).run prog W=.ok (k0==0&&(k1==0&&(k2==0&&k3==0))) W:=by
 obtain⟨i,hi,-,-,-⟩:=info_parts (show(prog.info? 3).map (fun i=>(i.zero,i.size,i.bytes))=some (some (.int .i64 0),1,8) by kernel_rfl);have hc:prog.cellsOf 3=1:=by kernel_rfl
 have hp:prog.plainKey 3=true:=by kernel_rfl
 have p:=fun(off:Nat) (v:Value) (h:(#[.int .i64 k0,.int .i64 k1,.int .i64 k2,.int .i64 k3]:Array Value)[off]? =some v)=>run_part_plain (P:=prog) (w:=W) hp (off:=off) h;have q:=fun(off:Nat) (v:Value) (h:(#[.int .i64 0,.int .i64 0,.int .i64 0,.int .i64 0]:Array Value)[off]? =some v)=>run_part_plain (P:=prog) (w:=W) hp (off:=off) h;have p0:=p 0 (.int .i64 k0) rfl;have p1:=p 1 (.int .i64 k1) rfl;have p2:=p 2 (.int .i64 k2) rfl;have p3:=p 3 (.int .i64 k3) rfl;have q0:=q 0 (.int .i64 0) rfl;have q1:=q 1 (.int .i64 0) rfl;have q2:=q 2 (.int .i64 0) rfl;have q3:=q 3 (.int .i64 0) rfl;have e: ∀a b:Int,(Op.equalIn 9999 3 (.int .i64 a) (.int .i64 b)).run prog W=.ok (a==b) W:=fun a b=>run_equalIn_int (P:=prog) W 9998 3 .i64 .i64 a b underlying3;rw[show(10000:Nat)=9999+1 from rfl,run_equalIn_array W 9999 _ _ underlying89 hi,hc,show List.range 4=[0,1,2,3]from rfl];cases h0:k0==0 with
 |false=>simp[Op.eqItems,p0,q0,e,h0]
 |true=>
  cases h1:k1==0 with
  |false=>simp[Op.eqItems,p0,p1,q0,q1,e,h0,h1]
  |true=>
   cases h2:k2==0 with
   |false=>simp[Op.eqItems,p0,p1,p2,q0,q1,q2,e,h0,h1,h2]
   |true=>
    cases h3:k3==0<;>simp[Op.eqItems,p0,p1,p2,p3,q0,q1,q2,q3,e,h0,h1,h2,h3]
attribute [local go_sem] eq4
def qb4 (n:NdD):Bool:=decide (¬ (n.kid=(0,0,0,0)))
set_option maxHeartbeats 3200000 in
theorem qcV (n:NdD) (w:World):Calls prog 36 #[.agg (ndV n).toArray] w fun en w'=>en=.returned (.bool (qb4 n))∧Kept w w':=by
 obtain⟨V,hV⟩: ∃V,V=qb4 n:=⟨_,rfl⟩
 rw[←hV];unfold qb4 at hV;unfold ndV;generalize n.kid=K at *;obtain⟨k0,k1,k2,k3⟩:=K;obtain⟨⟨⟨a0,a1,a2⟩,⟨a3,a4,a5⟩,a6⟩,t,d,ks⟩:=n;simp only at hV⊢;have HV:=qh hV;clear hV;go_enter func36,ntmps36
 go_upto_region 1 with fail
 obtain⟨b,w1,hw,hb,B0,K1,HB⟩:=qa4 w [.bool a0,.string a1,.int .i64 a2,.bool a3,.string a4,.int .i64 a5,.int .i64 a6,.int .u8 t,.int .i64 d,.int .i64 k0,.int .i64 k1,.int .i64 k2,.int .i64 k3] 91;rw[←hw,←hb];clear hw hb;have c0:=B0.out.c 9 rfl;have c1:=B0.out.c 10 rfl;have c2:=B0.out.c 11 rfl;have c3:=B0.out.c 12 rfl;go_wp2_with fail
 have hb:(!(((k0:Int)==0)&&(((k1:Int)==0)&&(((k2:Int)==0)&&((k3:Int)==0)))))=V:=by
  rw[HV.out,Bool.eq_iff_iff];simp
 exact bodyPost_ret (v:=.bool V) (by simp[results,results36,go_sem];rw[←hb];simp) rfl ⟨rfl,K1.out⟩
end
theorem qau {P:Program} {o:Oper} {a:Act} {W:World} {K:Act→World→Prop} {Q:Exit→Act→World→Prop} {g off n:Nat} {T:TypeId} {d:TypeDesc} {vs:List Value} (x:Operand) (ho:o.op=.load T x) (hx:a.eval x=.pointer (some ⟨g,off,none⟩)) (hc: ∀i y,vs[i]? =some y→W.cell? ⟨g,off+i,none⟩=some y) (hn:vs.length=n) (hu:P.underlying T=some d) (hd:(match d with|.struct _|.array _ _=>true|_=>false)=true) (hi:(P.info? T).map (·.size)=some n)
  (h:K (a.put o.dst (.agg vs.toArray)) W):o.wp P a W K Q:=by
 have hl:(loadCells ⟨g,off,none⟩ vs.length).run P W=.ok vs.toArray W:=
  run_loadCells_list (P:=P) W ⟨g,off,none⟩ vs (fun j v hv=>by rw[qd1];exact hc j v hv)
 have hload:(loadVar T ⟨g,off,none⟩).run P W=.ok (.agg vs.toArray) W:=by
  cases hq:P.info? T with
  |none=>simp[hq]at hi
  |some i=>
   have hs:i.size=n:=by simpa [hq] using hi
   have hagg:(isAgg T).run P W=.ok true W:=by
    unfold isAgg;rw[Sem.run_bind,run_underlying hu W];cases d<;>simp_all
   rw[hn]at hl;simp[loadVar,Sem.run_bind,hagg,sizeOf,typeInfo,hq,hs,hl]
 unfold Oper.wp execOp;simp only[ho,hx,Instr.loadAt,Instr.sureAddr,Sem.run_bind,Sem.run_pure,Result.andThen_ok,hload];exact h
theorem Bx.at_ {W:World} {b:Nat} {vs:List Value} (h:Bx W b vs) (off n:Nat): ∀i y,((vs.drop off).take n)[i]? =some y→W.cell? ⟨b,off+i,none⟩=some y:=by
 intro i y hy;rw[List.getElem?_take]at hy;split at hy
 ·rw [List.getElem?_drop]at hy
  exact h.c _ hy
 ·cases hy
theorem qaH {P:Program} {ops:Array Oper} {o:Oper} {a:Act} {w:World} {K:Act→World→Prop} {Q:Exit→Act→World→Prop} {E:Prop} (hg:o.guard=none) (h:Oper.wp P o a w K Q):if Region.wanted o (yielded ops a.tmps)=true then Oper.wp P o a w K Q else E:=by
 rw[if_pos (by simp[Region.wanted,hg])];exact h
theorem qew {P:Program} {fn:Func} {W:World} {tm:Array Value} {t s u b g n m:Nat} {T S:TypeId} {vs us:List Value} {x:Value} {Q:Ending→World→Prop} {d e:TypeDesc} (hr:fn.results=#[.cell t T,.cell s S,.tmp u])
  (hu:P.underlying T=some d) (hd:(match d with|.struct _|.array _ _=>true|_=>false)=true) (hi:(P.info? T).map (·.size)=some n)
  (hv:P.underlying S=some e) (he:(match e with|.struct _|.array _ _=>true|_=>false)=true) (hj:(P.info? S).map (·.size)=some m)
  (h2:tm.getD t undef=.pointer (some ⟨b,0,none⟩)) (h4:tm.getD s undef=.pointer (some ⟨g,0,none⟩)) (h3:tm.getD u undef=x) (hb:Bx W b vs) (hn:vs.length=n) (hg:Bx W g us) (hm:us.length=m)
  (hq:Q (.returned (.tuple #[.agg vs.toArray,.agg us.toArray,x])) W):bodyPost P fn Q Exit.ret {tmps:=tm,defers:=[]} W:=by
 refine bodyPost_ret (v:=.tuple #[.agg vs.toArray,.agg us.toArray,x]) ?_ rfl hq;rw[Array.getD_eq_getD_getElem?]at h2 h3 h4;unfold results;rw[hr];simp only[Sem.run_bind];simp[Array.mapM_eq_mapM_toList,h2,h3,h4,qc7 hb hn hu hd hi,qc7 hg hm hv he hj,asAddr]
theorem qao {P:Program} {o:Oper} {a:Act} {W:World} {b n:Nat} {T:TypeId} {d:TypeDesc} {vs:List Value} (x:Operand) (ho:o.op=.load T x) (hx:a.eval x=.pointer (some ⟨b,0,none⟩)) (hb:Bx W b vs) (hn:vs.length=n) (hu:P.underlying T=some d) (hd:(match d with|.struct _|.array _ _=>true|_=>false)=true) (hi:(P.info? T).map (·.size)=some n):
  (execOp a.eval o).run P W=.ok (.value (.agg vs.toArray)) W:=by
 unfold execOp;simp only[ho,hx,Instr.loadAt,Instr.sureAddr,Sem.run_bind,Sem.run_pure,Result.andThen_ok,qc7 hb hn hu hd hi]
theorem Kept.rows {w W:World} {b g:Nat} (h:Kept w W) (hb:w.heap.size≤b) (hg:w.heap.size≤g) (vs us:List Value):Kept w ((W.setRow b vs.toArray).setRow g us.toArray):=(h.row hb vs).row hg us
theorem qbS {S:StD} (hS:GoodS S) {k:Nat} {n:NdD} (hk:S.L[k]? =some n):qb4 n=n.kids.isSome:=by
 unfold qb4 NdD.kid;cases h:n.kids with
 |none=>rfl
 |some x=>
  obtain⟨p,q,r,s⟩:=x;have:=hS.kids k n p q r s hk h;simp;omega
abbrev qlU (s:SqD):List Value:=[.complex .f64 (qah s).1.re (qah s).1.im,.float .f64 (qah s).1.r]
def sq4 (q:SqD×SqD×SqD×SqD):List Value:=[q.1,q.2.1,q.2.2.1,q.2.2.2].flatMap qal
def cv4 (q:SqD×SqD×SqD×SqD):List Value:=[q.1,q.2.1,q.2.2.1,q.2.2.2].flatMap qlU
def qdy (o:Option (NdD×(SqD×SqD×SqD×SqD))) (v:Value):Prop:=match o with
 |none=> ∃xs ys:List Value,xs.length=28∧ys.length=8∧xs.all Value.oneCell'=true∧ys.all Value.oneCell'=true∧v=.tuple #[.agg xs.toArray,.agg ys.toArray,.bool false]
 |some (_,q)=>v=.tuple #[.agg (sq4 q).toArray,.agg (cv4 q).toArray,.bool true]
set_option maxRecDepth 100000 in
set_option maxHeartbeats 6400000 in
theorem qla {w:World} {base p:Nat} {v:Value} {u:RuD} {S:StD} {k:Nat} {n:NdD} (hM:TrM w base p v u S) (hS:GoodS S) (hk:S.L[k]? =some n) (h0: ¬(n.kids=none∧n.told=0∧n.depth<40∧S.n+3≤65536)):
  Calls prog 72 #[.pointer (some ⟨p,0,none⟩),.int .i64 (k:Int)] w fun en w'=> ∃x,en=.returned x∧qdy none x∧Kept w w':=by
 obtain⟨g,off,c,rfl,hbg,hgl,hgp,hcell,-⟩:=hM.form hS.pos;have hlt:(k:Int)<((S.L.length:Nat):Int):=by have:=(List.getElem?_eq_some_iff.1 hk).1;omega
 have h0k:(0:Int)≤(k:Int):=by omega
 have hnd:=hcell k n;have bp:=hM.box;generalize S.L.length=N at *;have PT:=qh (fun W=>qcV n W)
 have hcase:qb4 n=true∨(qb4 n=false∧((n.told≠0)∨(n.told=0∧(40≤n.depth∨(n.depth<40∧65536<S.n+3))))):=by
  rw[qbS hS hk];cases hkk:n.kids with
  |some x=>exact .inl rfl
  |none=>exact .inr ⟨rfl,by rw[hkk]at h0;simp at h0;omega⟩
 have hSn:=hS.few;have hn:=hS.nd k n hk;have hn2:=hn.told;have hn3:=hn.depth;clear hn h0;generalize qb4 n=pb at *;generalize S.n=sn at *;have ew:IntKind.i64.wrap ((sn:Int)+3)=(sn:Int)+3:=IntWalk.i64_in _ (by omega);obtain⟨⟨⟨a0,a1,a2⟩,⟨a3,a4,a5⟩,a6⟩,t,d,ks⟩:=n;have HC:Hid (∀i y,(ndV ⟨⟨⟨a0,a1,a2⟩,⟨a3,a4,a5⟩,a6⟩,t,d,ks⟩)[i]? =some y→w.cell? ⟨g,off+k*13+i,none⟩=some y):=fun i y hy=>by rw[Nat.add_assoc];exact hnd i y hk hy
 unfold ndV at HC PT;generalize NdD.kid ⟨⟨⟨a0,a1,a2⟩,⟨a3,a4,a5⟩,a6⟩,t,d,ks⟩=KK at *;obtain⟨k0,k1,k2,k3⟩:=KK;simp only at PT HC⊢;have BP:=qh bp;have HPL:=qh (show p<w.heap.size from bp.lt);clear hM hcell hnd hk hbg bp;go_enter func72,ntmps72
 go_upto_region 1 with fail
 obtain⟨b,w1,hw,hb,B0,B1,K1,HB⟩:=qa6 w ZL2 141 ZL3 142;rw[←hw,←hb];clear hw hb;have c1:=(BP.out.kept K1.out).c 1 rfl;refine wp_region_list ?_;refine wpList_plain rfl fun K hK=>?_;go_step;refine hK _ _ ?_;clear hK K;refine wpList_plain rfl fun K hK=>?_;go_step;refine hK _ _ ?_;clear hK K;refine wpList_plain rfl fun K hK=>?_;go_step;refine hK _ _ ?_;clear hK K;refine wpList_plain rfl fun K hK=>?_;go_step;refine hK _ _ ?_;clear hK K;refine wpList_plain rfl fun K hK=>?_;go_step;refine hK _ _ ?_;clear hK K;refine wpList_plain rfl fun K hK=>?_;go_step;refine hK _ _ ?_;clear hK K;have HW:=qh (fun i y hy=>(K1.out.cells g (off+k*13+i) hgl).trans (HC.out i y hy));refine wpList_plain rfl fun K hK=>qau (g:=g) (off:=off+k*13) (n:=13) _ rfl rfl HW.out rfl underlying91 rfl (by kernel_rfl) (hK _ _ ?_);clear hK K HW HC;refine wpList_plain rfl fun K hK=>?_;go_step;refine hK _ _ ?_;clear hK K;have K4:=qh (Kept.new (Below.refl _ w1) (.cells #[.bool false,.string ⟨#[]⟩,.int .i64 0,.bool false,.string ⟨#[]⟩,.int .i64 0,.int .i64 0,.int .u8 0,.int .i64 0,.int .i64 0,.int .i64 0,.int .i64 0,.int .i64 0] 91));have B2:=qh (Bx.new w1 [.bool false,.string ⟨#[]⟩,.int .i64 0,.bool false,.string ⟨#[]⟩,.int .i64 0,.int .i64 0,.int .u8 0,.int .i64 0,.int .i64 0,.int .i64 0,.int .i64 0,.int .i64 0] 91 w1.heap.size rfl);obtain⟨h,hh⟩: ∃h,h=w1.heap.size:=⟨_,rfl⟩
 have HG:=qh (show w1.heap.size≤h by omega);rw[←hh]at B2⊢;clear hh;generalize World.alloc w1 _=w4 at *;refine wpList_plain rfl fun K hK=>qaa (b:=h) (n:=13) _ _ rfl rfl rfl B2.out rfl rfl (by kernel_rfl) rfl (hK _ _ ?_);clear hK K;replace B2:=qh (B2.out.row [.bool a0,.string a1,.int .i64 a2,.bool a3,.string a4,.int .i64 a5,.int .i64 a6,.int .u8 t,.int .i64 d,.int .i64 k0,.int .i64 k1,.int .i64 k2,.int .i64 k3]);replace K4:=qh (Kept.row K4.out HG.out [.bool a0,.string a1,.int .i64 a2,.bool a3,.string a4,.int .i64 a5,.int .i64 a6,.int .u8 t,.int .i64 d,.int .i64 k0,.int .i64 k1,.int .i64 k2,.int .i64 k3]);generalize World.setRow w4 _ _=w5 at *;go_upto_region 3 with fail
 have K6:=qh (Kept.new K4.out (.cells ZL3.toArray 142));have B3:=qh (Bx.new w5 ZL3 142 w5.heap.size rfl);replace B2:=qh (B2.out.kept (Kept.new (Below.refl _ _) (.cells ZL3.toArray 142)));have HQ:=qh (show w1.heap.size≤w5.heap.size from K4.out.size);obtain⟨q,hq⟩: ∃q,q=w5.heap.size:=⟨_,rfl⟩
 rw[←hq]at B3 HQ⊢;clear hq K4;generalize World.alloc w5 _=w6 at *;clear c1;simp only at hcase hn2 hn3;have HSS:=qh hcase;clear hcase;refine wp_region_list ?_;refine wpList_plain rfl fun K hK=>qag (b:=h) (n:=13) _ rfl rfl B2.out rfl underlying91 rfl (by kernel_rfl) (hK _ _ ?_);clear hK K;rcases HSS.out with rfl|⟨rfl,h1|⟨h1,h2|⟨h2,h3⟩⟩⟩
 ·go_upto_region 4 with (go_at_call 36;(with_reducible refine(PT.out _).mono ?_);rintro e w7 ⟨rfl,hk7⟩;have d7:=(B2.out.kept hk7).c 7 rfl;have d8:=(B2.out.kept hk7).c 8 rfl;have p2:=(((BP.out.kept K1.out).kept K6.out).kept hk7).c 2 rfl)
  have KX:=qh (K6.out.trans' hk7);have QB:=qh (B3.out.kept hk7);have KD:=qh (show Kept w1 (w7).drew from KX.out.trans' (Below.refl _ w7).drew);have B0d:=qh (B0.out.kept KD.out);have B1d:=qh (B1.out.kept KD.out);have HNE:=qh (show q≠b∧q≠b+1 from by have h1:=(B1.out).lt;have h2:=HQ.out;omega);have hS0:Bx (w7).drew q ZL3:=QB.out.kept (Below.refl _ w7).drew;refine qac (fun W=>Bx W q ZL3) [4] (by kernel_rfl) ?_ (fun hHeld=>?_)
  ·assumption
  refine yS (v:=.agg ZL2.toArray) 0 40 ?_ ?_
  ·intro w hSw;(try dsimp only at hSw);go_simp;(try with_reducible rfl)
  try simp only[Act.put,tdy]
  refine yS (v:=.agg ZL3.toArray) 1 41 ?_ ?_
  ·intro w hSw;(try dsimp only at hSw);exact qao (vs:=ZL3) (n:=8) _ rfl rfl hSw rfl underlying142 rfl (by kernel_rfl)
  try simp only[Act.put,tdy]
  refine oS 2 fun K hK=>?_;(refine qaH rfl (qaa (vs:=ZL2) (b:=b) (n:=28) _ _ rfl rfl rfl B0d.out rfl rfl (by kernel_rfl) rfl ?_);have hS1:Bx (World.setRow (w7).drew (b) ZL2.toArray) q ZL3:=hS0.off HNE.out.1 ZL2)
  refine hK.out _ _ ?_ (fun hHeld=>?_)
  ·assumption
  clear hK K;try simp only[Act.put,List.setIfInBounds_toArray]
  refine oS 3 fun K hK=>?_;(refine qaH rfl (qaa (vs:=ZL3) (b:=b+1) (n:=8) _ _ rfl rfl rfl (B1d.out.off (g:=b) (by omega) ZL2) rfl rfl (by kernel_rfl) rfl ?_);have hS2:Bx (World.setRow (World.setRow (w7).drew (b) ZL2.toArray) (b+1) ZL3.toArray) q ZL3:=hS1.off HNE.out.2 ZL3)
  refine hK.out _ _ ?_ (fun hHeld=>?_)
  ·assumption
  clear hK K;try simp only[Act.put,List.setIfInBounds_toArray]
  refine eS 4 fun K hK=>?_;go_simp;refine hK.out _ _ ?_;clear hK K;try simp only[Act.put,tdy]
  refine dS ?_ _;go_wp2_with fail
  refine qew results72 underlying141 rfl (by kernel_rfl) underlying142 rfl (by kernel_rfl) rfl rfl rfl ((B0d.out.row ZL2).off (g:=b+1) (by omega) ZL3) rfl ((B1d.out.off (g:=b) (by omega) ZL2).row ZL3) rfl ⟨_,rfl,⟨ZL2,ZL3,rfl,rfl,rfl,rfl,rfl⟩,Kept.rows (K1.out.trans' KD.out) (show w.heap.size≤b from HB.out) (show w.heap.size≤b+1 by have:=HB.out;omega) _ _⟩
 ·have h4:(((t:Int)) != 0)=true:=by simpa using h1
  go_upto_region 4 with (go_at_call 36;(with_reducible refine(PT.out _).mono ?_);rintro e w7 ⟨rfl,hk7⟩;have d7:=(B2.out.kept hk7).c 7 rfl;have d8:=(B2.out.kept hk7).c 8 rfl;have p2:=(((BP.out.kept K1.out).kept K6.out).kept hk7).c 2 rfl)
  have KX:=qh (K6.out.trans' hk7);have QB:=qh (B3.out.kept hk7);have KD:=qh (show Kept w1 (w7).drew from KX.out.trans' (Below.refl _ w7).drew);have B0d:=qh (B0.out.kept KD.out);have B1d:=qh (B1.out.kept KD.out);have HNE:=qh (show q≠b∧q≠b+1 from by have h1:=(B1.out).lt;have h2:=HQ.out;omega);have hS0:Bx (w7).drew q ZL3:=QB.out.kept (Below.refl _ w7).drew;refine qac (fun W=>Bx W q ZL3) [4] (by kernel_rfl) ?_ (fun hHeld=>?_)
  ·assumption
  refine yS (v:=.agg ZL2.toArray) 0 40 ?_ ?_
  ·intro w hSw;(try dsimp only at hSw);go_simp;(try with_reducible rfl)
  try simp only[Act.put,tdy]
  refine yS (v:=.agg ZL3.toArray) 1 41 ?_ ?_
  ·intro w hSw;(try dsimp only at hSw);exact qao (vs:=ZL3) (n:=8) _ rfl rfl hSw rfl underlying142 rfl (by kernel_rfl)
  try simp only[Act.put,tdy]
  refine oS 2 fun K hK=>?_;(refine qaH rfl (qaa (vs:=ZL2) (b:=b) (n:=28) _ _ rfl rfl rfl B0d.out rfl rfl (by kernel_rfl) rfl ?_);have hS1:Bx (World.setRow (w7).drew (b) ZL2.toArray) q ZL3:=hS0.off HNE.out.1 ZL2)
  refine hK.out _ _ ?_ (fun hHeld=>?_)
  ·assumption
  clear hK K;try simp only[Act.put,List.setIfInBounds_toArray]
  refine oS 3 fun K hK=>?_;(refine qaH rfl (qaa (vs:=ZL3) (b:=b+1) (n:=8) _ _ rfl rfl rfl (B1d.out.off (g:=b) (by omega) ZL2) rfl rfl (by kernel_rfl) rfl ?_);have hS2:Bx (World.setRow (World.setRow (w7).drew (b) ZL2.toArray) (b+1) ZL3.toArray) q ZL3:=hS1.off HNE.out.2 ZL3)
  refine hK.out _ _ ?_ (fun hHeld=>?_)
  ·assumption
  clear hK K;try simp only[Act.put,List.setIfInBounds_toArray]
  refine eS 4 fun K hK=>?_;go_simp;refine hK.out _ _ ?_;clear hK K;try simp only[Act.put,tdy]
  refine dS ?_ _;go_wp2_with fail
  refine qew results72 underlying141 rfl (by kernel_rfl) underlying142 rfl (by kernel_rfl) rfl rfl rfl ((B0d.out.row ZL2).off (g:=b+1) (by omega) ZL3) rfl ((B1d.out.off (g:=b) (by omega) ZL2).row ZL3) rfl ⟨_,rfl,⟨ZL2,ZL3,rfl,rfl,rfl,rfl,rfl⟩,Kept.rows (K1.out.trans' KD.out) (show w.heap.size≤b from HB.out) (show w.heap.size≤b+1 by have:=HB.out;omega) _ _⟩
 ·have h5:(((t:Int)) != 0)=false:=by simpa using h1
  have h4:(40:Int)≤(d:Int):=by omega
  clear h1;go_upto_region 4 with (go_at_call 36;(with_reducible refine(PT.out _).mono ?_);rintro e w7 ⟨rfl,hk7⟩;have d7:=(B2.out.kept hk7).c 7 rfl;have d8:=(B2.out.kept hk7).c 8 rfl;have p2:=(((BP.out.kept K1.out).kept K6.out).kept hk7).c 2 rfl)
  have KX:=qh (K6.out.trans' hk7);have QB:=qh (B3.out.kept hk7);have KD:=qh (show Kept w1 (w7).drew from KX.out.trans' (Below.refl _ w7).drew);have B0d:=qh (B0.out.kept KD.out);have B1d:=qh (B1.out.kept KD.out);have HNE:=qh (show q≠b∧q≠b+1 from by have h1:=(B1.out).lt;have h2:=HQ.out;omega);have hS0:Bx (w7).drew q ZL3:=QB.out.kept (Below.refl _ w7).drew;refine qac (fun W=>Bx W q ZL3) [4] (by kernel_rfl) ?_ (fun hHeld=>?_)
  ·assumption
  refine yS (v:=.agg ZL2.toArray) 0 40 ?_ ?_
  ·intro w hSw;(try dsimp only at hSw);go_simp;(try with_reducible rfl)
  try simp only[Act.put,tdy]
  refine yS (v:=.agg ZL3.toArray) 1 41 ?_ ?_
  ·intro w hSw;(try dsimp only at hSw);exact qao (vs:=ZL3) (n:=8) _ rfl rfl hSw rfl underlying142 rfl (by kernel_rfl)
  try simp only[Act.put,tdy]
  refine oS 2 fun K hK=>?_;(refine qaH rfl (qaa (vs:=ZL2) (b:=b) (n:=28) _ _ rfl rfl rfl B0d.out rfl rfl (by kernel_rfl) rfl ?_);have hS1:Bx (World.setRow (w7).drew (b) ZL2.toArray) q ZL3:=hS0.off HNE.out.1 ZL2)
  refine hK.out _ _ ?_ (fun hHeld=>?_)
  ·assumption
  clear hK K;try simp only[Act.put,List.setIfInBounds_toArray]
  refine oS 3 fun K hK=>?_;(refine qaH rfl (qaa (vs:=ZL3) (b:=b+1) (n:=8) _ _ rfl rfl rfl (B1d.out.off (g:=b) (by omega) ZL2) rfl rfl (by kernel_rfl) rfl ?_);have hS2:Bx (World.setRow (World.setRow (w7).drew (b) ZL2.toArray) (b+1) ZL3.toArray) q ZL3:=hS1.off HNE.out.2 ZL3)
  refine hK.out _ _ ?_ (fun hHeld=>?_)
  ·assumption
  clear hK K;try simp only[Act.put,List.setIfInBounds_toArray]
  refine eS 4 fun K hK=>?_;go_simp;refine hK.out _ _ ?_;clear hK K;try simp only[Act.put,tdy]
  refine dS ?_ _;go_wp2_with fail
  refine qew results72 underlying141 rfl (by kernel_rfl) underlying142 rfl (by kernel_rfl) rfl rfl rfl ((B0d.out.row ZL2).off (g:=b+1) (by omega) ZL3) rfl ((B1d.out.off (g:=b) (by omega) ZL2).row ZL3) rfl ⟨_,rfl,⟨ZL2,ZL3,rfl,rfl,rfl,rfl,rfl⟩,Kept.rows (K1.out.trans' KD.out) (show w.heap.size≤b from HB.out) (show w.heap.size≤b+1 by have:=HB.out;omega) _ _⟩
 ·have h5:(((t:Int)) != 0)=false:=by simpa using h1
  have h4:(d:Int)<40:=by omega
  have h6:(65536:Int)<(sn:Int)+3:=by omega
  clear h1;go_upto_region 4 with (go_at_call 36;(with_reducible refine(PT.out _).mono ?_);rintro e w7 ⟨rfl,hk7⟩;have d7:=(B2.out.kept hk7).c 7 rfl;have d8:=(B2.out.kept hk7).c 8 rfl;have p2:=(((BP.out.kept K1.out).kept K6.out).kept hk7).c 2 rfl)
  have KX:=qh (K6.out.trans' hk7);have QB:=qh (B3.out.kept hk7);have KD:=qh (show Kept w1 (w7).drew from KX.out.trans' (Below.refl _ w7).drew);have B0d:=qh (B0.out.kept KD.out);have B1d:=qh (B1.out.kept KD.out);have HNE:=qh (show q≠b∧q≠b+1 from by have h1:=(B1.out).lt;have h2:=HQ.out;omega);have hS0:Bx (w7).drew q ZL3:=QB.out.kept (Below.refl _ w7).drew;refine qac (fun W=>Bx W q ZL3) [4] (by kernel_rfl) ?_ (fun hHeld=>?_)
  ·assumption
  refine yS (v:=.agg ZL2.toArray) 0 40 ?_ ?_
  ·intro w hSw;(try dsimp only at hSw);go_simp;(try with_reducible rfl)
  try simp only[Act.put,tdy]
  refine yS (v:=.agg ZL3.toArray) 1 41 ?_ ?_
  ·intro w hSw;(try dsimp only at hSw);exact qao (vs:=ZL3) (n:=8) _ rfl rfl hSw rfl underlying142 rfl (by kernel_rfl)
  try simp only[Act.put,tdy]
  refine oS 2 fun K hK=>?_;(refine qaH rfl (qaa (vs:=ZL2) (b:=b) (n:=28) _ _ rfl rfl rfl B0d.out rfl rfl (by kernel_rfl) rfl ?_);have hS1:Bx (World.setRow (w7).drew (b) ZL2.toArray) q ZL3:=hS0.off HNE.out.1 ZL2)
  refine hK.out _ _ ?_ (fun hHeld=>?_)
  ·assumption
  clear hK K;try simp only[Act.put,List.setIfInBounds_toArray]
  refine oS 3 fun K hK=>?_;(refine qaH rfl (qaa (vs:=ZL3) (b:=b+1) (n:=8) _ _ rfl rfl rfl (B1d.out.off (g:=b) (by omega) ZL2) rfl rfl (by kernel_rfl) rfl ?_);have hS2:Bx (World.setRow (World.setRow (w7).drew (b) ZL2.toArray) (b+1) ZL3.toArray) q ZL3:=hS1.off HNE.out.2 ZL3)
  refine hK.out _ _ ?_ (fun hHeld=>?_)
  ·assumption
  clear hK K;try simp only[Act.put,List.setIfInBounds_toArray]
  refine eS 4 fun K hK=>?_;go_simp;refine hK.out _ _ ?_;clear hK K;try simp only[Act.put,tdy]
  refine dS ?_ _;go_wp2_with fail
  refine qew results72 underlying141 rfl (by kernel_rfl) underlying142 rfl (by kernel_rfl) rfl rfl rfl ((B0d.out.row ZL2).off (g:=b+1) (by omega) ZL3) rfl ((B1d.out.off (g:=b) (by omega) ZL2).row ZL3) rfl ⟨_,rfl,⟨ZL2,ZL3,rfl,rfl,rfl,rfl,rfl⟩,Kept.rows (K1.out.trans' KD.out) (show w.heap.size≤b from HB.out) (show w.heap.size≤b+1 by have:=HB.out;omega) _ _⟩
section
set_option maxHeartbeats 6400000
set_option maxRecDepth 100000
section
variable {s : SqD} (hs : sqB s = true)
include hs
theorem qoN :qaG (qaP s.left 1 (s.e-1)) (qaP s.low 0 (s.e-1))=qaG (qaP s.left 1 (s.e-1)) (s.low,0):=by
 rw[qdl _ (qax.1 hs).2.1]
theorem qpz :qaG (qaP s.left 0 (s.e-1)) (qaP s.low 1 (s.e-1))=qaG (s.left,0) (qaP s.low 1 (s.e-1)):=by
 rw[qdl _ (qax.1 hs).1]
end
theorem ql9 (s:SqD) (w:World) (hs:sqB s=true) (he:s.e= -4096):
  Calls prog 115 #[.agg #[.bool s.left.neg,.string s.left.n,.int .i64 s.left.e,.bool s.low.neg,.string s.low.n,.int .i64 s.low.e,.int .i64 s.e]] w fun en w'=> ∃v,en=.returned v∧qez none v∧Kept w w':=by
 have RT:Hid (∀W,Calls prog 54 #[.agg #[.bool s.left.neg,.string s.left.n,.int .i64 s.left.e,.bool s.low.neg,.string s.low.n,.int .i64 s.low.e,.int .i64 s.e]] W fun en w'=>en=.returned (.int .i64 0)∧Kept W w'):=fun W=>by
  have:=qbx s W (qds hs);rwa [hs]at this
 obtain⟨hs1,hs2,hs3,hs4⟩:=qax.1 hs;obtain⟨⟨a0,a1,a2⟩,⟨a3,a4,a5⟩,a6⟩:=s;simp only at RT he⊢;subst he;clear hs hs1 hs2 hs3 hs4;go_enter func115,ntmps115
 go_upto_region 1 with fail
 obtain⟨b,w1,hw,hb,B0,B1,K1,HB⟩:=qa6 w (LC3 a0 a1 a2 a3 a4 a5 (-4096)) 26 ZL2 141;rw[←hw,←hb];clear hw hb;obtain⟨c0,c1,c2,c3,c4,c5,c6⟩:=B0.out.c7;go_upto_region 2 with (go_at_call 54;(with_reducible refine(RT.out _).mono ?_);rintro e w3 ⟨rfl,hk3⟩;obtain⟨c0,c1,c2,c3,c4,c5,c6⟩:=(B0.out.kept hk3).c7)
 have K3:=qh hk3;clear hk3;refine wp_region_list (wpList_plain rfl fun K hK=>qas ZL2 _ _ rfl (by kernel_rfl) (hK _ _ ?_));clear hK K;refine wpList_plain rfl fun K hK=>qaa (b:=b+1) (n:=28) _ _ rfl rfl rfl (B1.out.kept K3.out) rfl rfl (by kernel_rfl) rfl (hK _ _ ?_);clear hK K;have B9:=qh ((B1.out.kept K3.out).row ZL2);have K9:=qh (Kept.row (K1.out.trans' K3.out) (show w.heap.size≤b+1 by have:=HB.out;omega) ZL2);generalize World.setRow _ _ _=w9 at *;go_wp2_with fail
 refine qbT results115 underlying141 rfl (by kernel_rfl) rfl rfl B9.out rfl ⟨_,rfl,⟨240,by omega,rfl⟩,K9.out⟩
theorem qoU (s:SqD) (w:World) (hs:sqB s=true) (he: ¬s.e= -4096) (hT:T32 w) (hx: ¬(qaP s.left 1 (s.e-1)).2=0):
  Calls prog 115 #[.agg #[.bool s.left.neg,.string s.left.n,.int .i64 s.left.e,.bool s.low.neg,.string s.low.n,.int .i64 s.low.e,.int .i64 s.e]] w fun en w'=> ∃v,en=.returned v∧qez none v∧Kept w w':=by
 have RT:Hid (∀W,Calls prog 54 #[.agg #[.bool s.left.neg,.string s.left.n,.int .i64 s.left.e,.bool s.low.neg,.string s.low.n,.int .i64 s.low.e,.int .i64 s.e]] W fun en w'=>en=.returned (.int .i64 0)∧Kept W w'):=fun W=>by
  have:=qbx s W (qds hs);rwa [hs]at this
 obtain⟨hs1,hs2,hs3,hs4⟩:=qax.1 hs
 have A0:Hid (∀W,Kept w W→Calls prog 55 #[.agg #[.bool s.left.neg,.string s.left.n,.int .i64 s.left.e,.bool s.low.neg,.string s.low.n,.int .i64 s.low.e,.int .i64 s.e],.int .i64 0,.int .i64 0] W fun en w'=>en=.returned (qaF (⟨s.left,s.low⟩,0))∧Kept W w'):=fun W h=>by
  have:=qbp s 0 0 W hs (by decide) (by decide) (hT.kept h);rwa [qhO hs]at this
 have A1:Hid (∀W,Kept w W→Calls prog 55 #[.agg #[.bool s.left.neg,.string s.left.n,.int .i64 s.left.e,.bool s.low.neg,.string s.low.n,.int .i64 s.low.e,.int .i64 s.e],.int .i64 1,.int .i64 0] W fun en w'=>en=.returned (qaF (qaG (qaP s.left 1 (s.e-1)) (s.low,0)))∧Kept W w'):=fun W h=>by
  have:=qbp s 1 0 W hs (by decide) (by decide) (hT.kept h);rwa [qoN hs]at this
 rw[qdp (.inl hx)]at A1;obtain⟨⟨a0,a1,a2⟩,⟨a3,a4,a5⟩,a6⟩:=s;simp only at RT A0 A1 hs3 hs4 he⊢;have heb:(a6== -4096)=false:=by simpa using he
 have hew:IntKind.i64.wrap (a6-1)=a6-1:=IntWalk.i64_in _ (by omega);clear hs hs1 hs2 hT hx;go_enter func115,ntmps115
 go_upto_region 1 with fail
 obtain⟨b,w1,hw,hb,B0,B1,K1,HB⟩:=qa6 w (LC3 a0 a1 a2 a3 a4 a5 a6) 26 ZL2 141;rw[←hw,←hb];clear hw hb;obtain⟨c0,c1,c2,c3,c4,c5,c6⟩:=B0.out.c7;go_upto_region 4 with (go_at_call 54;(with_reducible refine(RT.out _).mono ?_);rintro e w3 ⟨rfl,hk3⟩;obtain⟨c0,c1,c2,c3,c4,c5,c6⟩:=(B0.out.kept hk3).c7)
 clear c0 c1 c2 c3 c4 c5 c6 RT;have K4:=qh (Kept.new hk3 (.cells ZL2.toArray 141));have L4:=qh (Bx.new w3 ZL2 141 w3.heap.size rfl);obtain⟨g,hg⟩: ∃g,g=w3.heap.size:=⟨_,rfl⟩
 rw[←hg]at L4⊢;have HG:=qh (show w1.heap.size≤g by have:=hk3.size;omega);clear hg hk3;generalize(w3.alloc (.cells ZL2.toArray 141))=w4 at *;go_wp2_with fail
 go_loopg [5,6,7,17] 4 (fun gh v5 v6 v7 v17 wr=> ∃i:Nat,i+gh=4∧v17=.int .i64 i∧Kept w1 wr∧((i=0∧Bx wr g ZL2)∨(i=1∧Bx wr g (LC5 a0 a1 a2 a3 a4 a5 (a6-1) false ⟨#[]⟩ 0 false ⟨#[]⟩ 0 0 false ⟨#[]⟩ 0 false ⟨#[]⟩ 0 0 false ⟨#[]⟩ 0 false ⟨#[]⟩ 0 0))))
 case atStart=>exact⟨0,by omega,rfl,K4.out,.inl ⟨rfl,L4.out⟩⟩
 case round=>
  obtain⟨i,hig,rfl,hk,hb⟩:=hrel;have HK:=qh hk;have hgw:g<wr.heap.size:=by rcases hb with ⟨-,hb⟩|⟨-,hb⟩<;>exact hb.lt
  clear hk;rcases hb with ⟨rfl,hb⟩|⟨rfl,hb⟩
  ·obtain rfl:gk=4:=by omega
   have BL:=qh hb;clear hb;obtain⟨c0,c1,c2,c3,c4,c5,c6⟩:=(B0.out.kept HK.out).c7;go_wp2_with (go_at_call 55;(with_reducible refine(A0.out _ (K1.out.trans' HK.out)).mono ?_);rintro e w5 ⟨rfl,hk5⟩;have B5:=qh (BL.out.kept hk5);have d0:=B5.out.c 0 rfl;have d1:=B5.out.c 1 rfl;have d2:=B5.out.c 2 rfl;have d3:=B5.out.c 3 rfl;have d4:=B5.out.c 4 rfl;have d5:=B5.out.c 5 rfl;have d6:=B5.out.c 6 rfl;have f0:=B5.out.f 0;have f1:=B5.out.f 1;have f2:=B5.out.f 2;have f3:=B5.out.f 3;have f4:=B5.out.f 4;have f5:=B5.out.f 5;have f6:=B5.out.f 6;have g5:=B5.out.lt;have K5:=qh (HK.out.trans' hk5);have B06:=((B0.out.kept HK.out).kept hk5).c 6 rfl;have bb5:=((B0.out.kept HK.out).kept hk5).lt;clear hk5 c0 c1 c2 c3 c4 c5 c6)
   go_roundg 3
   case measure=>omega
   case rel=>
    refine⟨1,by omega,by go_num,?_,?_⟩
    ·exact(Kept.new (Kept.set (Kept.set (Kept.set (Kept.set (Kept.set (Kept.set (Kept.set K5.out HG.out 0 _) HG.out 1 _) HG.out 2 _) HG.out 3 _) HG.out 4 _) HG.out 5 _) HG.out 6 _) _)
    ·refine(.inr (⟨rfl,?_⟩))
     exact(Bx.kept (Bx.set (Bx.set (Bx.set (Bx.set (Bx.set (Bx.set (Bx.set B5.out 0 _ (by simp)) 1 _ (by simp)) 2 _ (by simp)) 3 _ (by simp)) 4 _ (by simp)) 5 _ (by simp)) 6 _ (by simp)) (Kept.new (Below.refl _ _) _))
  ·obtain rfl:gk=3:=by omega
   have BL:=qh hb;clear hb;obtain⟨c0,c1,c2,c3,c4,c5,c6⟩:=(B0.out.kept HK.out).c7;go_upto_region 9 with (go_at_call 55;(with_reducible refine(A1.out _ (K1.out.trans' HK.out)).mono ?_);rintro e w5 ⟨rfl,hk5⟩;have B5:=qh (BL.out.kept hk5);have K5:=qh (HK.out.trans' hk5);clear hk5 c0 c1 c2 c3 c4 c5 c6)
   replace K5:=qh (Kept.new K5.out (.cells (LC1 zG.re.neg zG.re.n zG.re.e zG.im.neg zG.im.n zG.im.e).toArray 28));generalize World.alloc w5 _=w6 at *;refine wp_region_list (wpList_plain rfl fun K hK=>qas ZL2 _ _ rfl (by kernel_rfl) (hK _ _ ?_));clear hK K;refine wpList_plain rfl fun K hK=>BigFrame.wp_move _ rfl (hK _ _ ?_);clear hK K;refine wpList_plain rfl fun K hK=>qaa (b:=b+1) (n:=28) _ _ rfl rfl rfl (B1.out.kept K5.out) rfl rfl (by kernel_rfl) rfl (hK _ _ ?_);clear hK K;have B9:=qh ((B1.out.kept K5.out).row ZL2);have K9:=qh (Kept.row (K1.out.trans' K5.out) (show w.heap.size≤b+1 by have:=HB.out;omega) ZL2);generalize World.setRow _ _ _=w9 at *;go_wp2_with fail
   refine qbT results115 underlying141 rfl (by kernel_rfl) rfl rfl B9.out rfl ⟨_,rfl,⟨4,by omega,rfl⟩,K9.out⟩
theorem qpr (s:SqD) (w:World) (hs:sqB s=true) (he: ¬s.e= -4096) (hT:T32 w) (hx:(qaP s.left 1 (s.e-1)).2=0) (hy: ¬(qaP s.low 1 (s.e-1)).2=0):
  Calls prog 115 #[.agg #[.bool s.left.neg,.string s.left.n,.int .i64 s.left.e,.bool s.low.neg,.string s.low.n,.int .i64 s.low.e,.int .i64 s.e]] w fun en w'=> ∃v,en=.returned v∧qez none v∧Kept w w':=by
 have RT:Hid (∀W,Calls prog 54 #[.agg #[.bool s.left.neg,.string s.left.n,.int .i64 s.left.e,.bool s.low.neg,.string s.low.n,.int .i64 s.low.e,.int .i64 s.e]] W fun en w'=>en=.returned (.int .i64 0)∧Kept W w'):=fun W=>by
  have:=qbx s W (qds hs);rwa [hs]at this
 obtain⟨hs1,hs2,hs3,hs4⟩:=qax.1 hs
 have A0:Hid (∀W,Kept w W→Calls prog 55 #[.agg #[.bool s.left.neg,.string s.left.n,.int .i64 s.left.e,.bool s.low.neg,.string s.low.n,.int .i64 s.low.e,.int .i64 s.e],.int .i64 0,.int .i64 0] W fun en w'=>en=.returned (qaF (⟨s.left,s.low⟩,0))∧Kept W w'):=fun W h=>by
  have:=qbp s 0 0 W hs (by decide) (by decide) (hT.kept h);rwa [qhO hs]at this
 have A1:Hid (∀W,Kept w W→Calls prog 55 #[.agg #[.bool s.left.neg,.string s.left.n,.int .i64 s.left.e,.bool s.low.neg,.string s.low.n,.int .i64 s.low.e,.int .i64 s.e],.int .i64 1,.int .i64 0] W fun en w'=>en=.returned (qaF (qaG (qaP s.left 1 (s.e-1)) (s.low,0)))∧Kept W w'):=fun W h=>by
  have:=qbp s 1 0 W hs (by decide) (by decide) (hT.kept h);rwa [qoN hs]at this
 have A2:Hid (∀W,Kept w W→Calls prog 55 #[.agg #[.bool s.left.neg,.string s.left.n,.int .i64 s.left.e,.bool s.low.neg,.string s.low.n,.int .i64 s.low.e,.int .i64 s.e],.int .i64 0,.int .i64 1] W fun en w'=>en=.returned (qaF (qaG (s.left,0) (qaP s.low 1 (s.e-1))))∧Kept W w'):=fun W h=>by
  have:=qbp s 0 1 W hs (by decide) (by decide) (hT.kept h);rwa [qpz hs]at this
 rw[qbE hx rfl]at A1;rw[qdp (.inr hy)]at A2;generalize(qaP s.left 1 (s.e-1)).1=X at *;obtain⟨x0,x1,x2⟩:=X;obtain⟨⟨a0,a1,a2⟩,⟨a3,a4,a5⟩,a6⟩:=s;simp only at RT A0 A1 A2 hs3 hs4 he⊢;have heb:(a6== -4096)=false:=by simpa using he
 have hew:IntKind.i64.wrap (a6-1)=a6-1:=IntWalk.i64_in _ (by omega);clear hs hs1 hs2 hT hx hy;go_enter func115,ntmps115
 go_upto_region 1 with fail
 obtain⟨b,w1,hw,hb,B0,B1,K1,HB⟩:=qa6 w (LC3 a0 a1 a2 a3 a4 a5 a6) 26 ZL2 141;rw[←hw,←hb];clear hw hb;obtain⟨c0,c1,c2,c3,c4,c5,c6⟩:=B0.out.c7;go_upto_region 4 with (go_at_call 54;(with_reducible refine(RT.out _).mono ?_);rintro e w3 ⟨rfl,hk3⟩;obtain⟨c0,c1,c2,c3,c4,c5,c6⟩:=(B0.out.kept hk3).c7)
 clear c0 c1 c2 c3 c4 c5 c6 RT;have K4:=qh (Kept.new hk3 (.cells ZL2.toArray 141));have L4:=qh (Bx.new w3 ZL2 141 w3.heap.size rfl);obtain⟨g,hg⟩: ∃g,g=w3.heap.size:=⟨_,rfl⟩
 rw[←hg]at L4⊢;have HG:=qh (show w1.heap.size≤g by have:=hk3.size;omega);clear hg hk3;generalize(w3.alloc (.cells ZL2.toArray 141))=w4 at *;go_wp2_with fail
 go_loopg [5,6,7,17] 4 (fun gh v5 v6 v7 v17 wr=> ∃i:Nat,i+gh=4∧v17=.int .i64 i∧Kept w1 wr∧((i=0∧Bx wr g ZL2)∨(i=1∧Bx wr g (LC5 a0 a1 a2 a3 a4 a5 (a6-1) false ⟨#[]⟩ 0 false ⟨#[]⟩ 0 0 false ⟨#[]⟩ 0 false ⟨#[]⟩ 0 0 false ⟨#[]⟩ 0 false ⟨#[]⟩ 0 0))∨(i=2∧Bx wr g (LC5 a0 a1 a2 a3 a4 a5 (a6-1) x0 x1 x2 a3 a4 a5 (a6-1) false ⟨#[]⟩ 0 false ⟨#[]⟩ 0 0 false ⟨#[]⟩ 0 false ⟨#[]⟩ 0 0))))
 case atStart=>exact⟨0,by omega,rfl,K4.out,.inl ⟨rfl,L4.out⟩⟩
 case round=>
  obtain⟨i,hig,rfl,hk,hb⟩:=hrel;have HK:=qh hk;have hgw:g<wr.heap.size:=by rcases hb with ⟨-,hb⟩|⟨-,hb⟩|⟨-,hb⟩<;>exact hb.lt
  clear hk;rcases hb with ⟨rfl,hb⟩|⟨rfl,hb⟩|⟨rfl,hb⟩
  ·obtain rfl:gk=4:=by omega
   have BL:=qh hb;clear hb;obtain⟨c0,c1,c2,c3,c4,c5,c6⟩:=(B0.out.kept HK.out).c7;go_wp2_with (go_at_call 55;(with_reducible refine(A0.out _ (K1.out.trans' HK.out)).mono ?_);rintro e w5 ⟨rfl,hk5⟩;have B5:=qh (BL.out.kept hk5);have d0:=B5.out.c 0 rfl;have d1:=B5.out.c 1 rfl;have d2:=B5.out.c 2 rfl;have d3:=B5.out.c 3 rfl;have d4:=B5.out.c 4 rfl;have d5:=B5.out.c 5 rfl;have d6:=B5.out.c 6 rfl;have f0:=B5.out.f 0;have f1:=B5.out.f 1;have f2:=B5.out.f 2;have f3:=B5.out.f 3;have f4:=B5.out.f 4;have f5:=B5.out.f 5;have f6:=B5.out.f 6;have g5:=B5.out.lt;have K5:=qh (HK.out.trans' hk5);have B06:=((B0.out.kept HK.out).kept hk5).c 6 rfl;have bb5:=((B0.out.kept HK.out).kept hk5).lt;clear hk5 c0 c1 c2 c3 c4 c5 c6)
   go_roundg 3
   case measure=>omega
   case rel=>
    refine⟨1,by omega,by go_num,?_,?_⟩
    ·exact(Kept.new (Kept.set (Kept.set (Kept.set (Kept.set (Kept.set (Kept.set (Kept.set K5.out HG.out 0 _) HG.out 1 _) HG.out 2 _) HG.out 3 _) HG.out 4 _) HG.out 5 _) HG.out 6 _) _)
    ·refine(.inr (.inl ⟨rfl,?_⟩))
     exact(Bx.kept (Bx.set (Bx.set (Bx.set (Bx.set (Bx.set (Bx.set (Bx.set B5.out 0 _ (by simp)) 1 _ (by simp)) 2 _ (by simp)) 3 _ (by simp)) 4 _ (by simp)) 5 _ (by simp)) 6 _ (by simp)) (Kept.new (Below.refl _ _) _))
  ·obtain rfl:gk=3:=by omega
   have BL:=qh hb;clear hb;obtain⟨c0,c1,c2,c3,c4,c5,c6⟩:=(B0.out.kept HK.out).c7;go_wp2_with (go_at_call 55;(with_reducible refine(A1.out _ (K1.out.trans' HK.out)).mono ?_);rintro e w5 ⟨rfl,hk5⟩;have B5:=qh (BL.out.kept hk5);have d7:=B5.out.c 7 rfl;have d8:=B5.out.c 8 rfl;have d9:=B5.out.c 9 rfl;have d10:=B5.out.c 10 rfl;have d11:=B5.out.c 11 rfl;have d12:=B5.out.c 12 rfl;have d13:=B5.out.c 13 rfl;have f7:=B5.out.f 7;have f8:=B5.out.f 8;have f9:=B5.out.f 9;have f10:=B5.out.f 10;have f11:=B5.out.f 11;have f12:=B5.out.f 12;have f13:=B5.out.f 13;have g5:=B5.out.lt;have K5:=qh (HK.out.trans' hk5);have B06:=((B0.out.kept HK.out).kept hk5).c 6 rfl;have bb5:=((B0.out.kept HK.out).kept hk5).lt;clear hk5 c0 c1 c2 c3 c4 c5 c6)
   go_roundg 2
   case measure=>omega
   case rel=>
    refine⟨2,by omega,by go_num,?_,?_⟩
    ·exact(Kept.new (Kept.set (Kept.set (Kept.set (Kept.set (Kept.set (Kept.set (Kept.set K5.out HG.out 7 _) HG.out 8 _) HG.out 9 _) HG.out 10 _) HG.out 11 _) HG.out 12 _) HG.out 13 _) _)
    ·refine(.inr (.inr (⟨rfl,?_⟩)))
     exact(Bx.kept (Bx.set (Bx.set (Bx.set (Bx.set (Bx.set (Bx.set (Bx.set B5.out 7 _ (by simp)) 8 _ (by simp)) 9 _ (by simp)) 10 _ (by simp)) 11 _ (by simp)) 12 _ (by simp)) 13 _ (by simp)) (Kept.new (Below.refl _ _) _))
  ·obtain rfl:gk=2:=by omega
   have BL:=qh hb;clear hb;obtain⟨c0,c1,c2,c3,c4,c5,c6⟩:=(B0.out.kept HK.out).c7;go_upto_region 9 with (go_at_call 55;(with_reducible refine(A2.out _ (K1.out.trans' HK.out)).mono ?_);rintro e w5 ⟨rfl,hk5⟩;have B5:=qh (BL.out.kept hk5);have K5:=qh (HK.out.trans' hk5);clear hk5 c0 c1 c2 c3 c4 c5 c6)
   replace K5:=qh (Kept.new K5.out (.cells (LC1 zG.re.neg zG.re.n zG.re.e zG.im.neg zG.im.n zG.im.e).toArray 28));generalize World.alloc w5 _=w6 at *;refine wp_region_list (wpList_plain rfl fun K hK=>qas ZL2 _ _ rfl (by kernel_rfl) (hK _ _ ?_));clear hK K;refine wpList_plain rfl fun K hK=>BigFrame.wp_move _ rfl (hK _ _ ?_);clear hK K;refine wpList_plain rfl fun K hK=>qaa (b:=b+1) (n:=28) _ _ rfl rfl rfl (B1.out.kept K5.out) rfl rfl (by kernel_rfl) rfl (hK _ _ ?_);clear hK K;have B9:=qh ((B1.out.kept K5.out).row ZL2);have K9:=qh (Kept.row (K1.out.trans' K5.out) (show w.heap.size≤b+1 by have:=HB.out;omega) ZL2);generalize World.setRow _ _ _=w9 at *;go_wp2_with fail
   refine qbT results115 underlying141 rfl (by kernel_rfl) rfl rfl B9.out rfl ⟨_,rfl,⟨4,by omega,rfl⟩,K9.out⟩
theorem qnT (s:SqD) (w:World) (hs:sqB s=true) (he: ¬s.e= -4096) (hT:T32 w) (hx:(qaP s.left 1 (s.e-1)).2=0) (hy:(qaP s.low 1 (s.e-1)).2=0):
  Calls prog 115 #[.agg #[.bool s.left.neg,.string s.left.n,.int .i64 s.left.e,.bool s.low.neg,.string s.low.n,.int .i64 s.low.e,.int .i64 s.e]] w fun en w'=> ∃v,en=.returned v∧qez (some [⟨s.left,s.low,s.e-1⟩,⟨(qaP s.left 1 (s.e-1)).1,s.low,s.e-1⟩,⟨s.left,(qaP s.low 1 (s.e-1)).1,s.e-1⟩,⟨(qaP s.left 1 (s.e-1)).1,(qaP s.low 1 (s.e-1)).1,s.e-1⟩]) v∧Kept w w':=by
 have RT:Hid (∀W,Calls prog 54 #[.agg #[.bool s.left.neg,.string s.left.n,.int .i64 s.left.e,.bool s.low.neg,.string s.low.n,.int .i64 s.low.e,.int .i64 s.e]] W fun en w'=>en=.returned (.int .i64 0)∧Kept W w'):=fun W=>by
  have:=qbx s W (qds hs);rwa [hs]at this
 obtain⟨hs1,hs2,hs3,hs4⟩:=qax.1 hs
 have A0:Hid (∀W,Kept w W→Calls prog 55 #[.agg #[.bool s.left.neg,.string s.left.n,.int .i64 s.left.e,.bool s.low.neg,.string s.low.n,.int .i64 s.low.e,.int .i64 s.e],.int .i64 0,.int .i64 0] W fun en w'=>en=.returned (qaF (⟨s.left,s.low⟩,0))∧Kept W w'):=fun W h=>by
  have:=qbp s 0 0 W hs (by decide) (by decide) (hT.kept h);rwa [qhO hs]at this
 have A1:Hid (∀W,Kept w W→Calls prog 55 #[.agg #[.bool s.left.neg,.string s.left.n,.int .i64 s.left.e,.bool s.low.neg,.string s.low.n,.int .i64 s.low.e,.int .i64 s.e],.int .i64 1,.int .i64 0] W fun en w'=>en=.returned (qaF (qaG (qaP s.left 1 (s.e-1)) (s.low,0)))∧Kept W w'):=fun W h=>by
  have:=qbp s 1 0 W hs (by decide) (by decide) (hT.kept h);rwa [qoN hs]at this
 have A2:Hid (∀W,Kept w W→Calls prog 55 #[.agg #[.bool s.left.neg,.string s.left.n,.int .i64 s.left.e,.bool s.low.neg,.string s.low.n,.int .i64 s.low.e,.int .i64 s.e],.int .i64 0,.int .i64 1] W fun en w'=>en=.returned (qaF (qaG (s.left,0) (qaP s.low 1 (s.e-1))))∧Kept W w'):=fun W h=>by
  have:=qbp s 0 1 W hs (by decide) (by decide) (hT.kept h);rwa [qpz hs]at this
 have A3:Hid (∀W,Kept w W→Calls prog 55 #[.agg #[.bool s.left.neg,.string s.left.n,.int .i64 s.left.e,.bool s.low.neg,.string s.low.n,.int .i64 s.low.e,.int .i64 s.e],.int .i64 1,.int .i64 1] W fun en w'=>en=.returned (qaF (qaG (qaP s.left 1 (s.e-1)) (qaP s.low 1 (s.e-1))))∧Kept W w'):=fun W h=>by
  have:=qbp s 1 1 W hs (by decide) (by decide) (hT.kept h);exact this
 rw[qbE hx rfl]at A1;rw[qbE rfl hy]at A2;rw[qbE hx hy]at A3;generalize(qaP s.left 1 (s.e-1)).1=X at *;generalize(qaP s.low 1 (s.e-1)).1=Y at *;obtain⟨x0,x1,x2⟩:=X;obtain⟨y0,y1,y2⟩:=Y;obtain⟨⟨a0,a1,a2⟩,⟨a3,a4,a5⟩,a6⟩:=s;simp only at RT A0 A1 A2 A3 hs3 hs4 he⊢;have heb:(a6== -4096)=false:=by simpa using he
 have hew:IntKind.i64.wrap (a6-1)=a6-1:=IntWalk.i64_in _ (by omega);clear hs hs1 hs2 hT hx hy;go_enter func115,ntmps115
 go_upto_region 1 with fail
 obtain⟨b,w1,hw,hb,B0,B1,K1,HB⟩:=qa6 w (LC3 a0 a1 a2 a3 a4 a5 a6) 26 ZL2 141;rw[←hw,←hb];clear hw hb;obtain⟨c0,c1,c2,c3,c4,c5,c6⟩:=B0.out.c7;go_upto_region 4 with (go_at_call 54;(with_reducible refine(RT.out _).mono ?_);rintro e w3 ⟨rfl,hk3⟩;obtain⟨c0,c1,c2,c3,c4,c5,c6⟩:=(B0.out.kept hk3).c7)
 clear c0 c1 c2 c3 c4 c5 c6 RT;have K4:=qh (Kept.new hk3 (.cells ZL2.toArray 141));have L4:=qh (Bx.new w3 ZL2 141 w3.heap.size rfl);obtain⟨g,hg⟩: ∃g,g=w3.heap.size:=⟨_,rfl⟩
 rw[←hg]at L4⊢;have HG:=qh (show w1.heap.size≤g by have:=hk3.size;omega);clear hg hk3;generalize(w3.alloc (.cells ZL2.toArray 141))=w4 at *;go_wp2_with fail
 go_loopg [5,6,7,17] 4 (fun gh v5 v6 v7 v17 wr=> ∃i:Nat,i+gh=4∧v17=.int .i64 i∧Kept w1 wr∧((i=0∧Bx wr g ZL2)∨(i=1∧Bx wr g (LC5 a0 a1 a2 a3 a4 a5 (a6-1) false ⟨#[]⟩ 0 false ⟨#[]⟩ 0 0 false ⟨#[]⟩ 0 false ⟨#[]⟩ 0 0 false ⟨#[]⟩ 0 false ⟨#[]⟩ 0 0))∨(i=2∧Bx wr g (LC5 a0 a1 a2 a3 a4 a5 (a6-1) x0 x1 x2 a3 a4 a5 (a6-1) false ⟨#[]⟩ 0 false ⟨#[]⟩ 0 0 false ⟨#[]⟩ 0 false ⟨#[]⟩ 0 0))∨(i=3∧Bx wr g (LC5 a0 a1 a2 a3 a4 a5 (a6-1) x0 x1 x2 a3 a4 a5 (a6-1) a0 a1 a2 y0 y1 y2 (a6-1) false ⟨#[]⟩ 0 false ⟨#[]⟩ 0 0))∨(i=4∧Bx wr g (LC5 a0 a1 a2 a3 a4 a5 (a6-1) x0 x1 x2 a3 a4 a5 (a6-1) a0 a1 a2 y0 y1 y2 (a6-1) x0 x1 x2 y0 y1 y2 (a6-1)))))
 case atStart=>exact⟨0,by omega,rfl,K4.out,.inl ⟨rfl,L4.out⟩⟩
 case round=>
  obtain⟨i,hig,rfl,hk,hb⟩:=hrel;have HK:=qh hk;have hgw:g<wr.heap.size:=by rcases hb with ⟨-,hb⟩|⟨-,hb⟩|⟨-,hb⟩|⟨-,hb⟩|⟨-,hb⟩<;>exact hb.lt
  clear hk;rcases hb with ⟨rfl,hb⟩|⟨rfl,hb⟩|⟨rfl,hb⟩|⟨rfl,hb⟩|⟨rfl,hb⟩
  ·obtain rfl:gk=4:=by omega
   have BL:=qh hb;clear hb;obtain⟨c0,c1,c2,c3,c4,c5,c6⟩:=(B0.out.kept HK.out).c7;go_wp2_with (go_at_call 55;(with_reducible refine(A0.out _ (K1.out.trans' HK.out)).mono ?_);rintro e w5 ⟨rfl,hk5⟩;have B5:=qh (BL.out.kept hk5);have d0:=B5.out.c 0 rfl;have d1:=B5.out.c 1 rfl;have d2:=B5.out.c 2 rfl;have d3:=B5.out.c 3 rfl;have d4:=B5.out.c 4 rfl;have d5:=B5.out.c 5 rfl;have d6:=B5.out.c 6 rfl;have f0:=B5.out.f 0;have f1:=B5.out.f 1;have f2:=B5.out.f 2;have f3:=B5.out.f 3;have f4:=B5.out.f 4;have f5:=B5.out.f 5;have f6:=B5.out.f 6;have g5:=B5.out.lt;have K5:=qh (HK.out.trans' hk5);have B06:=((B0.out.kept HK.out).kept hk5).c 6 rfl;have bb5:=((B0.out.kept HK.out).kept hk5).lt;clear hk5 c0 c1 c2 c3 c4 c5 c6)
   go_roundg 3
   case measure=>omega
   case rel=>
    refine⟨1,by omega,by go_num,?_,?_⟩
    ·exact(Kept.new (Kept.set (Kept.set (Kept.set (Kept.set (Kept.set (Kept.set (Kept.set K5.out HG.out 0 _) HG.out 1 _) HG.out 2 _) HG.out 3 _) HG.out 4 _) HG.out 5 _) HG.out 6 _) _)
    ·refine(.inr (.inl ⟨rfl,?_⟩))
     exact(Bx.kept (Bx.set (Bx.set (Bx.set (Bx.set (Bx.set (Bx.set (Bx.set B5.out 0 _ (by simp)) 1 _ (by simp)) 2 _ (by simp)) 3 _ (by simp)) 4 _ (by simp)) 5 _ (by simp)) 6 _ (by simp)) (Kept.new (Below.refl _ _) _))
  ·obtain rfl:gk=3:=by omega
   have BL:=qh hb;clear hb;obtain⟨c0,c1,c2,c3,c4,c5,c6⟩:=(B0.out.kept HK.out).c7;go_wp2_with (go_at_call 55;(with_reducible refine(A1.out _ (K1.out.trans' HK.out)).mono ?_);rintro e w5 ⟨rfl,hk5⟩;have B5:=qh (BL.out.kept hk5);have d7:=B5.out.c 7 rfl;have d8:=B5.out.c 8 rfl;have d9:=B5.out.c 9 rfl;have d10:=B5.out.c 10 rfl;have d11:=B5.out.c 11 rfl;have d12:=B5.out.c 12 rfl;have d13:=B5.out.c 13 rfl;have f7:=B5.out.f 7;have f8:=B5.out.f 8;have f9:=B5.out.f 9;have f10:=B5.out.f 10;have f11:=B5.out.f 11;have f12:=B5.out.f 12;have f13:=B5.out.f 13;have g5:=B5.out.lt;have K5:=qh (HK.out.trans' hk5);have B06:=((B0.out.kept HK.out).kept hk5).c 6 rfl;have bb5:=((B0.out.kept HK.out).kept hk5).lt;clear hk5 c0 c1 c2 c3 c4 c5 c6)
   go_roundg 2
   case measure=>omega
   case rel=>
    refine⟨2,by omega,by go_num,?_,?_⟩
    ·exact(Kept.new (Kept.set (Kept.set (Kept.set (Kept.set (Kept.set (Kept.set (Kept.set K5.out HG.out 7 _) HG.out 8 _) HG.out 9 _) HG.out 10 _) HG.out 11 _) HG.out 12 _) HG.out 13 _) _)
    ·refine(.inr (.inr (.inl ⟨rfl,?_⟩)))
     exact(Bx.kept (Bx.set (Bx.set (Bx.set (Bx.set (Bx.set (Bx.set (Bx.set B5.out 7 _ (by simp)) 8 _ (by simp)) 9 _ (by simp)) 10 _ (by simp)) 11 _ (by simp)) 12 _ (by simp)) 13 _ (by simp)) (Kept.new (Below.refl _ _) _))
  ·obtain rfl:gk=2:=by omega
   have BL:=qh hb;clear hb;obtain⟨c0,c1,c2,c3,c4,c5,c6⟩:=(B0.out.kept HK.out).c7;go_wp2_with (go_at_call 55;(with_reducible refine(A2.out _ (K1.out.trans' HK.out)).mono ?_);rintro e w5 ⟨rfl,hk5⟩;have B5:=qh (BL.out.kept hk5);have d14:=B5.out.c 14 rfl;have d15:=B5.out.c 15 rfl;have d16:=B5.out.c 16 rfl;have d17:=B5.out.c 17 rfl;have d18:=B5.out.c 18 rfl;have d19:=B5.out.c 19 rfl;have d20:=B5.out.c 20 rfl;have f14:=B5.out.f 14;have f15:=B5.out.f 15;have f16:=B5.out.f 16;have f17:=B5.out.f 17;have f18:=B5.out.f 18;have f19:=B5.out.f 19;have f20:=B5.out.f 20;have g5:=B5.out.lt;have K5:=qh (HK.out.trans' hk5);have B06:=((B0.out.kept HK.out).kept hk5).c 6 rfl;have bb5:=((B0.out.kept HK.out).kept hk5).lt;clear hk5 c0 c1 c2 c3 c4 c5 c6)
   go_roundg 1
   case measure=>omega
   case rel=>
    refine⟨3,by omega,by go_num,?_,?_⟩
    ·exact(Kept.new (Kept.set (Kept.set (Kept.set (Kept.set (Kept.set (Kept.set (Kept.set K5.out HG.out 14 _) HG.out 15 _) HG.out 16 _) HG.out 17 _) HG.out 18 _) HG.out 19 _) HG.out 20 _) _)
    ·refine(.inr (.inr (.inr (.inl ⟨rfl,?_⟩))))
     exact(Bx.kept (Bx.set (Bx.set (Bx.set (Bx.set (Bx.set (Bx.set (Bx.set B5.out 14 _ (by simp)) 15 _ (by simp)) 16 _ (by simp)) 17 _ (by simp)) 18 _ (by simp)) 19 _ (by simp)) 20 _ (by simp)) (Kept.new (Below.refl _ _) _))
  ·obtain rfl:gk=1:=by omega
   have BL:=qh hb;clear hb;obtain⟨c0,c1,c2,c3,c4,c5,c6⟩:=(B0.out.kept HK.out).c7;go_wp2_with (go_at_call 55;(with_reducible refine(A3.out _ (K1.out.trans' HK.out)).mono ?_);rintro e w5 ⟨rfl,hk5⟩;have B5:=qh (BL.out.kept hk5);have d21:=B5.out.c 21 rfl;have d22:=B5.out.c 22 rfl;have d23:=B5.out.c 23 rfl;have d24:=B5.out.c 24 rfl;have d25:=B5.out.c 25 rfl;have d26:=B5.out.c 26 rfl;have d27:=B5.out.c 27 rfl;have f21:=B5.out.f 21;have f22:=B5.out.f 22;have f23:=B5.out.f 23;have f24:=B5.out.f 24;have f25:=B5.out.f 25;have f26:=B5.out.f 26;have f27:=B5.out.f 27;have g5:=B5.out.lt;have K5:=qh (HK.out.trans' hk5);have B06:=((B0.out.kept HK.out).kept hk5).c 6 rfl;have bb5:=((B0.out.kept HK.out).kept hk5).lt;clear hk5 c0 c1 c2 c3 c4 c5 c6)
   go_roundg 0
   case measure=>omega
   case rel=>
    refine⟨4,by omega,by go_num,?_,?_⟩
    ·exact(Kept.new (Kept.set (Kept.set (Kept.set (Kept.set (Kept.set (Kept.set (Kept.set K5.out HG.out 21 _) HG.out 22 _) HG.out 23 _) HG.out 24 _) HG.out 25 _) HG.out 26 _) HG.out 27 _) _)
    ·refine(.inr (.inr (.inr (.inr (⟨rfl,?_⟩)))))
     exact(Bx.kept (Bx.set (Bx.set (Bx.set (Bx.set (Bx.set (Bx.set (Bx.set B5.out 21 _ (by simp)) 22 _ (by simp)) 23 _ (by simp)) 24 _ (by simp)) 25 _ (by simp)) 26 _ (by simp)) 27 _ (by simp)) (Kept.new (Below.refl _ _) _))
  ·obtain rfl:gk=0:=by omega
   have BL:=qh hb;clear hb;go_upto_region 12 with fail
   refine wp_region_list (wpList_plain rfl fun K hK=>qag (b:=g) (n:=28) _ rfl rfl BL.out rfl underlying141 rfl (by kernel_rfl) (hK _ _ ?_));clear hK K;refine wpList_plain rfl fun K hK=>qaa (b:=b+1) (n:=28) _ _ rfl rfl rfl (B1.out.kept HK.out) rfl rfl (by kernel_rfl) rfl (hK _ _ ?_);clear hK K;have B9:=qh ((B1.out.kept HK.out).row (LC5 a0 a1 a2 a3 a4 a5 (a6-1) x0 x1 x2 a3 a4 a5 (a6-1) a0 a1 a2 y0 y1 y2 (a6-1) x0 x1 x2 y0 y1 y2 (a6-1)));have K9:=qh (Kept.row (K1.out.trans' HK.out) (show w.heap.size≤b+1 by have:=HB.out;omega) (LC5 a0 a1 a2 a3 a4 a5 (a6-1) x0 x1 x2 a3 a4 a5 (a6-1) a0 a1 a2 y0 y1 y2 (a6-1) x0 x1 x2 y0 y1 y2 (a6-1)));generalize World.setRow _ _ _=w9 at *;go_wp2_with fail
   refine qbT results115 underlying141 rfl (by kernel_rfl) rfl rfl B9.out rfl ⟨_,rfl,rfl,K9.out⟩
theorem qh7 (s:SqD) (w:World) (hs:sqB s=true) (hT:T32 w):
  Calls prog 115 #[.agg #[.bool s.left.neg,.string s.left.n,.int .i64 s.left.e,.bool s.low.neg,.string s.low.n,.int .i64 s.low.e,.int .i64 s.e]] w fun en w'=> ∃v,en=.returned v∧qez (qaQ s) v∧Kept w w':=by
 by_cases he:s.e= -4096
 ·rw [show qaQ s=none by unfold qaQ;rw[if_pos he]]
  exact ql9 s w hs he
 ·by_cases hx:(qaP s.left 1 (s.e-1)).2=0
  ·by_cases hy:(qaP s.low 1 (s.e-1)).2=0
   ·have hm:qbB s=(⟨(qaP s.left 1 (s.e-1)).1,(qaP s.low 1 (s.e-1)).1⟩,0):=qbE hx hy
    have h:qaQ s=some [⟨s.left,s.low,s.e-1⟩,⟨(qaP s.left 1 (s.e-1)).1,s.low,s.e-1⟩,⟨s.left,(qaP s.low 1 (s.e-1)).1,s.e-1⟩,⟨(qaP s.left 1 (s.e-1)).1,(qaP s.low 1 (s.e-1)).1,s.e-1⟩]:=by
     unfold qaQ;rw[if_neg he,hm,if_pos rfl]
    rw[h];exact qnT s w hs he hT hx hy
   ·have hm:qbB s=(zG,4):=qdp (.inr hy)
    rw[show qaQ s=none by unfold qaQ;rw[if_neg he,hm,if_neg (by decide)]];exact qpr s w hs he hT hx hy
  ·have hm:qbB s=(zG,4):=qdp (.inl hx)
   rw[show qaQ s=none by unfold qaQ;rw[if_neg he,hm,if_neg (by decide)]];exact qoU s w hs he hT hx
end
end Go.Proofs.YtfdnledkcongaaaGreatDoor
