/- Texts of one claim laid together: RfW, LkB, RfE, RfF, RfG, LwA, LwB, Awk, LwR, OpR, RefineReadsF, FacR. -/
import Derived.Test.YtfdnledkcongaaaGreatDoorQ15
import Derived.Test.YtfdnledkcongaaaGreatDoorRows
import Derived.OpenShut
import Derived.LaidMore
import Derived.ProofKit
import Derived.Stop.Joined
import Derived.Deep.Slices
import Derived.ChangeSame
import Derived.Test.YtfdnledkcongaaaGreatDoorCards
import Derived.JoinedOf
set_option linter.all false
namespace Go.Proofs.YtfdnledkcongaaaGreatDoor
open Go.RowKit Go.Proofs.Tryz
section
attribute [local go_sem] qaf qad
def qkr :Option (List DyD)→Value
 |some A=>.tuple #[.agg (dyL (A.getD 1 zD)++dyL (A.getD 2 zD)++dyL (A.getD 0 zD)).toArray,.int .i64 0]
 |none=>.tuple #[.agg (qdJ z3D).toArray,.int .i64 4]
theorem Own.qbh {g base size n:Nat} {v:Value} {xs:List Value} (hne: ∀k,v.ownBlock=some k→k≠g): ∀(vs:List Value) {W:World} (o:Nat),Own W base size v n xs→Own (W.setCells g o vs) base size v n xs
 |[],_,_,h=>h
 |x::vs,W,o,h=>by
  rw[World.setCells];exact Own.qbh hne vs (o+1) (h.far (p:=⟨g,o,none⟩) hne x)
set_option maxRecDepth 100000 in
set_option maxHeartbeats 6400000 in
theorem ql {w:World} {base p:Nat} {v:Value} {u:RuD} {L:List NdR} (hM:RfM w base p v u L) (hS:qck L):
  Calls prog 48 #[.pointer (some ⟨p,0,none⟩)] w fun en w'=>en=.returned (qkr (qdL ((qak (stR L)).map (prL (stR L))) z3D))∧Kept w w':=by
 obtain⟨gt,ot,ct,hv,-,hgt,hgp,hcell,-⟩:=hM.form hS.pos;have LV:=qh (fun W hk=>qeU (w:=W) (hM.kept hk) hS);have hbox:=hM.box;have HLEN:=qh hS.len;have HPL:=qh (qbD hS.whole);have HFL:=qh (qc hS.whole);have HND:=qh hS.good.nd;obtain⟨F,hF⟩: ∃F,F=qak (stR L):=⟨_,rfl⟩
 rw[←hF]at LV HPL HFL⊢;have HPOS:Hid (F.length≤87381):=qh (by have h1:=HFL.out;have h2:=HLEN.out;simp only[stR,List.length_map]at h1;omega);have hpl:=hbox.lt;have HGT:=qh (And.intro hgt hpl);have hlt: ∀(k:Nat) (n:NdR),L[k]? =some n→(k:Int)<(L.length:Int):=fun k n h=>by have:=(List.getElem?_eq_some_iff.1 h).1;omega
 have HLT:=qh hlt;rw[hv]at hbox;have HBX:=qh hbox;have HCL:=qh hcell;obtain⟨LN,hLN⟩: ∃LN,LN=L.length:=⟨_,rfl⟩
 rw[←hLN]at HBX HLT;clear hM hS hF hcell hgt hpl hlt hbox hLN hgp;obtain⟨AP,hAP⟩: ∃AP,AP=qkr (qdL (F.map (prL (stR L))) z3D):=⟨_,rfl⟩
 rw[←hAP];have HAP:=qh hAP;clear hAP;go_enter func48,ntmps48
 go_upto_region 2 with fail
 have B0:=Bx.new w ZL5 112 w.heap.size rfl;have K1:=Kept.new (Below.refl _ w) (.cells ZL5.toArray 112);have B1:Hid (Bx ((w.alloc (.cells ZL5.toArray 112)).alloc (.cells ZL5.toArray 112)) (w.heap.size+1) (qdJ z3D)):=qh (Bx.new (w.alloc (.cells ZL5.toArray 112)) ZL5 112 (w.heap.size+1) (by simp));replace B0:=qh (B0.kept (Kept.new (Below.refl _ _) (.cells ZL5.toArray 112)));replace K1:=qh (Kept.new K1 (.cells ZL5.toArray 112));obtain⟨b,hb⟩: ∃b,b=w.heap.size:=⟨_,rfl⟩
 have HB:=qh (show w.heap.size≤b by omega);rw[←hb]at B0 B1⊢;clear hb;generalize(w.alloc _).alloc _=w1 at *;go_upto_region 3 with (go_at_call 50;(with_reducible refine(LV.out _ K1.out).mono ?_);rintro e w2 ⟨x,rfl,hO,hk2⟩;have HO:=qh hO;have HK2:=qh hk2;clear hO hk2)
 obtain⟨A,c,rfl,hnc,hcm,-,-,-⟩:=HO.out.form;have hpos:=HPOS.out;obtain⟨FN,hFN⟩: ∃FN,FN=F.length:=⟨_,rfl⟩
 rw[←hFN]at HO hnc hpos⊢;have HFN:=qh hFN;have HK:=qh (K1.out.trans' HK2.out);replace B0:=qh (B0.out.kept HK2.out);have HB1:=qh (show b+1<w1.heap.size from B1.out.lt);replace B1:=qh (B1.out.kept HK2.out);clear hFN LV HK2 K1;go_wp2_with fail
 go_loopg [6] FN (fun gh v6 wr=> ∃(j:Nat) (D:List DyD),j+gh=FN∧v6=.int .i64 (j:Int)∧qdK (stR L) (F.take j) D∧Bx wr (b+1) (qdJ D)∧Bx wr b ZL5∧Own wr w1.heap.size 1 (.slice A FN c) FN (qay F)∧Kept w wr)
 case atStart=>exact⟨0,z3D,by omega,rfl,qdK.nil _,B1.out,B0.out,HO.out,HK.out⟩
 case round=>
  clear B1 B0 HO HK;obtain⟨j,D,hjg,rfl,hacc,hB1,hB0,hO,hk⟩:=hrel;have HAC:=qh hacc;have B1:=qh hB1;have B0:=qh hB0;have HO:=qh hO;have HK:=qh hk;clear hacc hB1 hB0 hO hk;cases gk with
  |zero=>
   obtain rfl:j=FN:=by omega
   have hsum:=HAC.out.sum;rw[HFN.out,List.take_length]at hsum;have HRE:Hid (AP=.tuple #[.agg (dyL (D.getD 1 zD)++dyL (D.getD 2 zD)++dyL (D.getD 0 zD)).toArray,.int .i64 0]):=qh (by rw[HAP.out,hsum];rfl);have HG:=qh (fun t (ht:t<3)=>(B1.out.range (qea HAC.out.len ht)));obtain⟨D0,hD0⟩: ∃D0,D0=D.getD 0 zD:=⟨_,rfl⟩
   obtain⟨D1,hD1⟩: ∃D1,D1=D.getD 1 zD:=⟨_,rfl⟩
   obtain⟨D2,hD2⟩: ∃D2,D2=D.getD 2 zD:=⟨_,rfl⟩
   have HG0:=qh (show wr.rangeAt (b+1) 0 (dyL D0) by rw[hD0];exact HG.out 0 (by omega));have HG1:=qh (show wr.rangeAt (b+1) 3 (dyL D1) by rw[hD1];exact HG.out 1 (by omega));have HG2:=qh (show wr.rangeAt (b+1) 6 (dyL D2) by rw[hD2];exact HG.out 2 (by omega));rw[←hD0,←hD1,←hD2]at HRE;clear hsum hD0 hD1 hD2 HG HAC B1;go_upto_region 11 with fail
   refine wp_region_list ?_;refine wpList_plain rfl fun K hK=>?_;go_step;refine hK _ _ ?_;clear hK K;refine wpList_plain rfl fun K hK=>qau (vs:=dyL D1) (g:=b+1) (off:=3) (n:=3) _ rfl rfl (fun i z hz=>HG1.out i z hz) rfl underlying24 rfl (by kernel_rfl) (hK _ _ ?_);clear hK K;refine wpList_plain rfl fun K hK=>?_;go_step;refine hK _ _ ?_;clear hK K;refine wpList_plain rfl fun K hK=>qau (vs:=dyL D2) (g:=b+1) (off:=6) (n:=3) _ rfl rfl (fun i z hz=>HG2.out i z hz) rfl underlying24 rfl (by kernel_rfl) (hK _ _ ?_);clear hK K;refine wpList_plain rfl fun K hK=>?_;go_step;refine hK _ _ ?_;clear hK K;refine wpList_plain rfl fun K hK=>qau (vs:=dyL D0) (g:=b+1) (off:=0) (n:=3) _ rfl rfl (fun i z hz=>HG0.out i z hz) rfl underlying24 rfl (by kernel_rfl) (hK _ _ ?_);clear hK K;refine wpList_plain rfl fun K hK=>qas (dyL D1++dyL D2++dyL D0) _ _ rfl (by kernel_rfl) (hK _ _ ?_);clear hK K;refine wpList_plain rfl fun K hK=>qaa (vs:=dyL D1++dyL D2++dyL D0) (b:=b) (n:=9) _ _ rfl rfl rfl B0.out rfl rfl (by kernel_rfl) rfl (hK _ _ ?_);clear hK K;replace B0:=qh (B0.out.row (dyL D1++dyL D2++dyL D0));replace HK:=qh (Kept.row HK.out HB.out (dyL D1++dyL D2++dyL D0));generalize World.setRow wr _ _=w9 at *;go_wp2_with fail
   exact qbT results48 underlying112 rfl (by kernel_rfl) rfl rfl B0.out rfl ⟨by rw[HRE.out];rfl,HK.out⟩
  |succ gj=>
   have hjF:j<F.length:=by have:=HFN.out;omega
   obtain⟨k,hk⟩: ∃k,F[j]? =some k:=⟨_,List.getElem?_eq_getElem hjF⟩
   have hkm:k∈F:=List.mem_of_getElem? hk;have hkl:=HPL.out k hkm;obtain⟨n,hn⟩: ∃n,L[k]? =some n:=⟨_,List.getElem?_eq_getElem (by simpa [stR] using hkl)⟩
   have htk:F.take (j+1)=F.take j++[k]:=by rw[List.take_add_one,hk];rfl
   have hspl:F=(F.take j++[k])++F.drop (j+1):=by rw[←htk,List.take_append_drop]
   have htd:=(HND.out _ _ (qdN hn)).told;have hsq:=(HND.out _ _ (qdN hn)).sq;change n.told≤2 at htd;change sqB n.sq=true at hsq;rcases HO.out.2 with ⟨-,h0⟩|⟨g,off,cap,hv,hbg,hgl,hnc2,hcm2,hx,hc⟩
   ·omega
   cases hv;have hx1:=hx j (.int .i64 (k:Int)) (by simp[qay,hk]);have HX1:=qh hx1;have HGL:=qh hgl;have HBG:=qh hbg;have p1:=(HBX.out.kept HK.out).c 12 rfl;have HP1:=qh p1;have HCN:Hid (∀i y,(rdV n)[i]? =some y→wr.cell? ⟨gt,ot+k*14+i,none⟩=some y):=qh fun i y hy=>(HK.out.cells gt (ot+k*14+i) HGT.out.1).trans (by rw[Nat.add_assoc];exact HCL.out k n i y hn hy);have tc:=HCN.out 8 _ (show(rdV n)[8]? =some (.int .u8 (n.told:Int))from rfl);have hk0:(0:Int)≤(k:Int):=by omega
   have hkL:=HLT.out k n hn;have hj0:(0:Int)≤(j:Int):=by omega
   have hjN:(j:Int)<(FN:Int):=by omega
   have ewj:IntKind.i64.wrap ((j:Int)+1)=((j+1:Nat):Int):=by rw[IntWalk.i64_in _ (by omega)];omega
   have AR:Hid (∀Z,Calls prog 92 #[.agg (qal n.sq).toArray] Z fun en w'=>en=.returned (.agg (dyL (qbW n.sq)).toArray)∧Kept Z w'):=qh (fun Z=>qmU n.sq Z hsq);have AD:Hid (∀Z,Calls prog 91 #[.agg (dyL (D.getD n.told zD)).toArray,.agg (dyL (qbW n.sq)).toArray] Z fun en w'=>en=.returned (.tuple #[.agg (dyL (qaE (D.getD n.told zD) (qbW n.sq)).1).toArray,.int .i64 (qaE (D.getD n.told zD) (qbW n.sq)).2])∧Kept Z w'):=qh (fun Z=>qdx (D.getD n.told zD) (qbW n.sq) Z (HAC.out.get (by omega)) (qfY _));have HNE:Hid ((qaE (D.getD n.told zD) (qbW n.sq)).2=0→qdK (stR L) (F.take (j+1)) (D.set n.told (qaE (D.getD n.told zD) (qbW n.sq)).1)):=qh (fun he=>by rw[htk];exact HAC.out.next (qdN hn) (show n.told<3 by omega) (qfY n.sq) he)
   have HST:Hid (¬ (qaE (D.getD n.told zD) (qbW n.sq)).2=0→AP=.tuple #[.agg (qdJ z3D).toArray,.int .i64 4]):=qh (fun he=>by
    rw[HAP.out];have h:=HAC.out.stop (qdN hn) he ((F.drop (j+1)).map (prL (stR L)));rw[←List.map_append,←hspl]at h;rw[h];rfl)
   obtain⟨td,htde⟩: ∃td,td=n.told:=⟨_,rfl⟩
   rw[←htde]at tc htd AD HNE HST;have HRG:=qh (fun Z (hz:Bx Z (b+1) (qdJ D))=>hz.range (qea HAC.out.len (t:=td) (by omega)));have HDL:=qh HAC.out.len;have HTD:=qh htd;have htd3:(td:Int)<3:=by omega
   have htd0:(0:Int)≤(td:Int):=by omega
   obtain⟨D0,hD0⟩: ∃D0,D0=D.getD td zD:=⟨_,rfl⟩
   rw[←hD0]at AD HNE HST HRG;obtain⟨XA,hXA⟩: ∃XA,XA=qbW n.sq:=⟨_,rfl⟩
   rw[←hXA]at AR AD HNE HST;have HRL:=qh (qdH D0 XA);generalize qaE D0 XA=RA at *;clear hk hkm hkl hn htk hspl hsq hx hc hgl hbg hnc2 hcm2 htde hD0 hXA hjF HAC htd;go_upto_region 6 with fail
   go_quiet (fail)
   clear hx1 p1 tc;generalize hwq:World.drewN wr _=wq;have HKQ:Hid (Kept wr wq):=qh (by rw[←hwq];exact⟨(Below.refl wr.heap.size wr).os,(Below.refl wr.heap.size wr).tape,(Below.refl wr.heap.size wr).output,(Below.refl wr.heap.size wr).size,(Below.refl wr.heap.size wr).block⟩);clear hwq;go_upto_region 7 with fail
   go_cut [8,9]from 30 to 48 (fun v8 v9 wy=> ∃da,v8=.pointer (some ⟨da,0,none⟩)∧v9=.int .i64 RA.2∧wr.heap.size≤da∧Bx wy da (dyL RA.1)∧Kept wr wy)
   case first=>
    have hS0:Kept wr wq.drew:=HKQ.out.trans' (show Kept wq wq.drew from(Below.refl _ wq).drew);refine qac (fun Z=>Kept wr Z) [21] (by kernel_rfl) ?_ (fun hHeld=>?_)
    ·assumption
    refine wS 0 30 ?_;refine wS 1 31 ?_;refine yS (v:=.agg (dyL D0).toArray) 2 32 ?_ ?_
    ·intro w hSw;(try dsimp only at hSw);exact qa5 (vs:=dyL D0) _ rfl rfl (HRG.out _ (B1.out.kept hSw)) underlying24 rfl (by kernel_rfl)
    try simp only[Act.put,tdy]
    refine wS 3 33 ?_;refine wS 4 34 ?_;refine wS 5 35 ?_;refine wS 6 36 ?_ (hy:=fun w hSw=>by have y7:=(HBX.out.kept (HK.out.trans' hSw)).c 12 rfl;go_simp;(try with_reducible rfl));refine wS 7 37 ?_;refine wS 8 38 ?_;refine wS 9 39 ?_;refine wS 10 40 ?_ (hy:=fun w hSw=>by have y7:=(Kept.cells hSw g (off+j) HGL.out).trans HX1.out;go_simp;(try with_reducible rfl));refine wS 11 41 ?_;refine wS 12 42 ?_;refine yS (v:=.agg (qal n.sq).toArray) 13 43 ?_ ?_
    ·intro w hSw;(try dsimp only at hSw);exact qa5 (vs:=qal n.sq) (b:=gt) (off:=ot+k*14) _ rfl rfl (fun i z hz=>(Kept.cells hSw gt (ot+k*14+i) (Nat.lt_of_lt_of_le HGT.out.1 HK.out.size)).trans (HCN.out i z (by have h7:i<7:=(List.getElem?_eq_some_iff.1 hz).1;rcases(show i=0∨i=1∨i=2∨i=3∨i=4∨i=5∨i=6 by omega)with rfl|rfl|rfl|rfl|rfl|rfl|rfl<;>exact hz))) underlying26 rfl (by kernel_rfl)
    try simp only[Act.put,tdy]
    refine tS 14 19 (fun K hK=>?_) (fun K hK=>?_)
    ·skip
     go_simp;(refine(AR.out _).mono ?_;rintro e wa ⟨rfl,hkwa⟩;have KA:=qh (hS0.trans' hkwa);have hSwa:=KA.out)
     refine hK.out _ _ ?_ (fun hHeld=>?_)
     ·assumption
     clear hK K;try simp only[Act.put,tdy]
     refine tS 15 19 (fun K hK=>?_) (fun K hK=>?_)
     ·skip
      go_simp;(refine(AD.out _).mono ?_;rintro e wb ⟨rfl,hkwb⟩;have KB:=qh (KA.out.trans' hkwb);have hSwb:=KB.out)
      refine hK.out _ _ ?_ (fun hHeld=>?_)
      ·assumption
      clear hK K;try simp only[Act.put,tdy]
      refine wS 16 29 ?_;refine wS 17 46 ?_;refine wS 18 47 ?_;refine oS 19 fun K hK=>?_;go_simp;(have KC:=qh (Kept.new KB.out (.cells (LC0 false ⟨#[]⟩ 0).toArray 24));have hSKC:=KC.out;have BD:=qh (Bx.new wb (LC0 false ⟨#[]⟩ 0) 24 wb.heap.size rfl))
      refine hK.out _ _ ?_ (fun hHeld=>?_)
      ·assumption
      clear hK K;try simp only[Act.put,tdy]
      refine oS 20 fun K hK=>?_;(refine qaH rfl (qaa (vs:=dyL RA.1) (b:=wb.heap.size) (n:=3) _ _ rfl rfl rfl BD.out rfl rfl (by kernel_rfl) rfl ?_);have BD1:=qh (BD.out.row (dyL RA.1));have KD1:=qh (Kept.row KC.out KB.out.size (dyL RA.1));have hSD:=KD1.out)
      refine hK.out _ _ ?_ (fun hHeld=>?_)
      ·assumption
      clear hK K;try simp only[Act.put,List.setIfInBounds_toArray]
      refine eS 21 fun K hK=>?_;go_simp;refine hK.out _ _ ?_;clear hK K;try simp only[Act.put,tdy]
      refine dS ?_ _;go_wp2_with fail
      go_meet
      exact⟨_,rfl,rfl,KB.out.size,BD1.out,KD1.out⟩
     ·skip
      go_simp;(have KC:=qh (Kept.new KA.out (.cells (LC0 false ⟨#[]⟩ 0).toArray 24));have hSKC:=KC.out;have BD:=qh (Bx.new wa (LC0 false ⟨#[]⟩ 0) 24 wa.heap.size rfl))
      refine hK.out _ _ ?_ (fun hHeld=>?_)
      ·assumption
      clear hK K;try simp only[Act.put,tdy]
      refine oS 15 fun K hK=>?_;go_simp;(refine(AD.out _).mono ?_;rintro e wb ⟨rfl,hkwb⟩;have KB:=qh (KC.out.trans' hkwb);have hSwb:=KB.out)
      refine hK.out _ _ ?_ (fun hHeld=>?_)
      ·assumption
      clear hK K;try simp only[Act.put,tdy]
      refine wS 16 29 ?_;refine wS 17 46 ?_;refine wS 18 47 ?_;refine oS 20 fun K hK=>?_;(refine qaH rfl (qaa (vs:=dyL RA.1) (b:=wa.heap.size) (n:=3) _ _ rfl rfl rfl (BD.out.kept hkwb) rfl rfl (by kernel_rfl) rfl ?_);have BD1:=qh ((BD.out.kept hkwb).row (dyL RA.1));have KD1:=qh (Kept.row KB.out KA.out.size (dyL RA.1));have hSD:=KD1.out)
      refine hK.out _ _ ?_ (fun hHeld=>?_)
      ·assumption
      clear hK K;try simp only[Act.put,List.setIfInBounds_toArray]
      refine eS 21 fun K hK=>?_;go_simp;refine hK.out _ _ ?_;clear hK K;try simp only[Act.put,tdy]
      refine dS ?_ _;go_wp2_with fail
      go_meet
      exact⟨_,rfl,rfl,KA.out.size,BD1.out,KD1.out⟩
    ·skip
     go_simp;(have KC:=qh (Kept.new hS0 (.cells (LC0 false ⟨#[]⟩ 0).toArray 24));have hSKC:=KC.out;have BD:=qh (Bx.new wq.drew (LC0 false ⟨#[]⟩ 0) 24 wq.drew.heap.size rfl))
     refine hK.out _ _ ?_ (fun hHeld=>?_)
     ·assumption
     clear hK K;try simp only[Act.put,tdy]
     refine oS 14 fun K hK=>?_;go_simp;(refine(AR.out _).mono ?_;rintro e wa ⟨rfl,hkwa⟩;have KA:=qh (KC.out.trans' hkwa);have hSwa:=KA.out)
     refine hK.out _ _ ?_ (fun hHeld=>?_)
     ·assumption
     clear hK K;try simp only[Act.put,tdy]
     refine oS 15 fun K hK=>?_;go_simp;(refine(AD.out _).mono ?_;rintro e wb ⟨rfl,hkwb⟩;have KB:=qh (KA.out.trans' hkwb);have hSwb:=KB.out)
     refine hK.out _ _ ?_ (fun hHeld=>?_)
     ·assumption
     clear hK K;try simp only[Act.put,tdy]
     refine wS 16 29 ?_;refine wS 17 46 ?_;refine wS 18 47 ?_;refine oS 20 fun K hK=>?_;(refine qaH rfl (qaa (vs:=dyL RA.1) (b:=wq.heap.size) (n:=3) _ _ rfl rfl rfl ((BD.out.kept hkwa).kept hkwb) rfl rfl (by kernel_rfl) rfl ?_);have BD1:=qh (((BD.out.kept hkwa).kept hkwb).row (dyL RA.1));have KD1:=qh (Kept.row KB.out HKQ.out.size (dyL RA.1));have hSD:=KD1.out)
     refine hK.out _ _ ?_ (fun hHeld=>?_)
     ·assumption
     clear hK K;try simp only[Act.put,List.setIfInBounds_toArray]
     refine eS 21 fun K hK=>?_;go_simp;refine hK.out _ _ ?_;clear hK K;try simp only[Act.put,tdy]
     refine dS ?_ _;go_wp2_with fail
     go_meet
     exact⟨_,rfl,rfl,HKQ.out.size,BD1.out,KD1.out⟩
   case rest=>
    obtain⟨da,rfl,rfl,hda,hbd,hkd⟩:=hcut;have BD:=qh hbd;have HKD:=qh hkd;have HDA:=qh hda;obtain⟨wz,hwz⟩: ∃X,X=wc:=⟨_,rfl⟩
    subst hwz;have HK2:=qh (HK.out.trans' hkd);replace B0:=qh (B0.out.kept hkd);replace B1:=qh (B1.out.kept hkd);have HO2:=qh (HO.out.kept hkd);clear hda hbd hkd HO HK;by_cases he:RA.2=0
    ·have HNX:=qh (HNE.out he)
     have e0:(RA.2 != 0)=false:=by(simp;exact he)
     go_upto_region 10 with fail
     refine wp_region_list ?_;refine wpList_plain rfl fun K hK=>?_;go_step;refine hK _ _ ?_;clear hK K;refine wpList_plain rfl fun K hK=>qag (vs:=dyL RA.1) (b:=da) (n:=3) _ rfl rfl BD.out rfl underlying24 rfl (by kernel_rfl) (hK _ _ ?_);clear hK K;refine wpList_plain rfl fun K hK=>?_;go_step;refine hK _ _ ?_;clear hK K;have hTH:=B1.out.there (o:=td*3) (n:=3) (by rw[qct HDL.out];have:=HTD.out;omega);refine wpList_plain rfl fun K hK=>wp_store_mid _ _ _ rfl (b+1) (td*3) (dyL RA.1).toArray rfl rfl hTH (by kernel_rfl) (all_oneCell_toArray (fun v hv=>List.all_eq_true.1 (show(dyL RA.1).all Value.oneCell'=true from rfl) v hv)) (hK _ _ ?_);clear hK K hTH;have B1n:=qh (show Bx _ (b+1) (qdJ (D.set td RA.1)) by(rw[←qhr HDL.out (by have:=HTD.out;omega)];exact B1.out.setCells (dyL RA.1) (td*3) (by rw[qct HDL.out];have:=HTD.out;show td*3+3≤9;omega)));have B0n:=qh (B0.out.qbh (g:=b+1) (by omega) (dyL RA.1) (td*3));have HKn:=qh (Kept.setCells (g:=b+1) (by have:=HB.out;omega) (dyL RA.1) (td*3) HK2.out);have HOn:=qh (Own.qbh (g:=b+1) (fun i hi=>by cases hi;have:=HB1.out;have:=HBG.out;show g≠b+1;omega) (dyL RA.1) (td*3) HO2.out);go_wp2_with fail
     go_roundg gj
     case measure=>omega
     case rel=>exact⟨j+1,_,by omega,by go_num,HNX.out,B1n.out,B0n.out,HOn.out,HKn.out⟩
    ·have e0:(RA.2 != 0)=true:=by simpa using he
     have h4e:RA.2=4:=by rcases HRL.out with h|h;exact absurd h he;rw[h]
     have HPE:=qh (HST.out he);go_upto_region 9 with fail
     refine wp_region_list ?_;refine wpList_plain rfl fun K hK=>qas ZL5 _ _ rfl (by kernel_rfl) (hK _ _ ?_);clear hK K;refine wpList_plain rfl fun K hK=>?_;go_step;refine hK _ _ ?_;clear hK K;refine wpList_plain rfl fun K hK=>qaa (vs:=ZL5) (b:=b) (n:=9) _ _ rfl rfl rfl B0.out rfl rfl (by kernel_rfl) rfl (hK _ _ ?_);clear hK K;replace B0:=qh (B0.out.row ZL5);replace HK2:=qh (Kept.row HK2.out HB.out ZL5);generalize World.setRow wz _ _=w9 at *;go_wp2_with fail
     exact qbT results48 underlying112 rfl (by kernel_rfl) rfl rfl B0.out rfl ⟨by rw[HPE.out];rfl,HK2.out⟩
end
section
attribute [local go_sem] Oper.semAt_some
theorem qlb (o:Option (List DyD)): ∃(a1 a2 a0:DyD) (e:Int),qpx o=.tuple #[.agg (dyL a1).toArray,.agg (dyL a2).toArray,.agg (dyL a0).toArray,.int .i64 e]∧qkr o=.tuple #[.agg (dyL a1++dyL a2++dyL a0).toArray,.int .i64 e]:=by
 cases o with
 |none=>exact⟨zD,zD,zD,4,rfl,rfl⟩
 |some A=>exact⟨_,_,_,0,rfl,rfl⟩
theorem ql3 (L:List NdR):qou L=qcM (stR L).L:=by
 unfold qou qcM stR;simp only[List.map_map];rfl
theorem qlO {b:Nat} {w A X:World} {row:Option Nat} (h:Far (fun k=>k=b) w A) (hg:A.grownBy X row) (hr: ∀r,row=some r→w.heap.size≤r):Far (fun k=>k=b) w X:=
 h.trans (Far.qfQ (s:=fun k=>row=some k) hg (fun k e=>e)) (fun i hi e=>by have:=hr i e;omega)
set_option maxRecDepth 100000 in
set_option maxHeartbeats 6400000 in
theorem qly {w:World} {base p base2 q:Nat} {v v2:Value} {u u2:RuD} {S:StD} {L:List NdR} (hM:TrM w base p v u S) (hS:GoodS S) (hW:Whole S) (hR:RfM w base2 q v2 u2 L) (hG:qck L) (hD:qpy S (stR L)) (hT:T32 w):
  Calls prog 17 #[.pointer (some ⟨p,0,none⟩),.pointer (some ⟨q,0,none⟩),.int .i64 0] w fun en w'=>en=.returned (.bool true)∧Kept w w':=by
 obtain⟨c1,hc1⟩: ∃c,c=qbK S (qak S) 1:=⟨_,rfl⟩
 obtain⟨c2,hc2⟩: ∃c,c=qbK S (qak S) 2:=⟨_,rfl⟩
 obtain⟨c0,hc0⟩: ∃c,c=qbK S (qak S) 0:=⟨_,rfl⟩
 have CT:Hid (∀W,Kept w W→Calls prog 44 #[.pointer (some ⟨p,0,none⟩)] W fun en w'=>en=.returned (.tuple #[.int .i64 (c1:Nat),.int .i64 (c2:Nat),.int .i64 (c0:Nat)])∧Kept W w'):=qh (fun W h=>by rw[hc1,hc2,hc0];exact qke (hM.kept h) hS hW);have CR:Hid (∀W,Kept w W→Calls prog 47 #[.pointer (some ⟨q,0,none⟩)] W fun en w'=>en=.returned (.tuple #[.int .i64 (c1:Nat),.int .i64 (c2:Nat),.int .i64 (c0:Nat)])∧Kept W w'):=qh (fun W h=>by rw[hc1,hc2,hc0,hD.cnt 1,hD.cnt 2,hD.cnt 0];exact qjZ (hR.kept h) hG);obtain⟨a1,a2,a0,ae,har,har2⟩:=qlb (qdL ((qak S).map (prL S)) z3D);have AT:Hid (∀W,Kept w W→Calls prog 45 #[.pointer (some ⟨p,0,none⟩)] W fun en w'=>en=.returned (.tuple #[.agg (dyL a1).toArray,.agg (dyL a2).toArray,.agg (dyL a0).toArray,.int .i64 ae])∧Kept W w'):=qh (fun W h=>by rw[←har];exact qm9 (hM.kept h) hS hW (hT.kept h));have AR:Hid (∀W,Kept w W→Calls prog 48 #[.pointer (some ⟨q,0,none⟩)] W fun en w'=>en=.returned (.tuple #[.agg (dyL a1++dyL a2++dyL a0).toArray,.int .i64 ae])∧Kept W w'):=qh (fun W h=>by rw[←har2,hD.prs];exact ql (hR.kept h) hG);obtain⟨n0,m0,hn0,hm0',hnm⟩:=hD.root
 obtain⟨r0,hr0,hr0s⟩: ∃r0,L[0]? =some r0∧r0.sq=n0.sq:=by
  change(L.map NdR.toD)[0]? =some m0 at hm0';rw[List.getElem?_map]at hm0';obtain⟨x,hx,rfl⟩:=Option.map_eq_some_iff.1 hm0';exact⟨x,hx,hnm.symm⟩
 obtain⟨s0,hs0⟩: ∃s0,s0=n0.sq:=⟨_,rfl⟩
 have SQ:Hid (∀W,Kept w W→Calls prog 46 #[.pointer (some ⟨p,0,none⟩)] W fun en w'=>en=.returned (.agg (qal s0).toArray)∧Kept W w'):=qh (fun W h=>(qkK (hM.kept h) hS).mono fun en w' ⟨n,h1,h2,h3⟩=>by
  rw[hn0]at h1;cases h1;exact⟨by rw[h2,hs0];rfl,h3⟩)
 obtain⟨dd,hdd⟩: ∃dd,dd=qcM S.L:=⟨_,rfl⟩
 have DT:Hid (∀W,Kept w W→Calls prog 37 #[.pointer (some ⟨p,0,none⟩)] W fun en w'=>en=.returned (.int .i64 (dd:Nat))∧Kept W w'):=qh (fun W h=>by rw[hdd];exact qne (hM.kept h) hS);have DR:Hid (∀W,Kept w W→Calls prog 49 #[.pointer (some ⟨q,0,none⟩)] W fun en w'=>en=.returned (.int .i64 (dd:Nat))∧Kept W w'):=qh (fun W h=>by rw[hdd,hD.deep,←ql3];exact qk7 (hR.kept h) hG);obtain⟨BB,hBB⟩: ∃BB:ByteArray,BB=⟨(bytesD S).toArray⟩:=⟨_,rfl⟩
 have BT:Hid (∀W,Kept w W→Calls prog 13 #[.pointer (some ⟨p,0,none⟩)] W fun en w'=>en=.returned (.string BB)∧Kept W w'):=qh (fun W h=>by rw[hBB];exact qhz (hM.kept h) hS hW)
 have BR:Hid (∀W,Kept w W→Calls prog 26 #[.pointer (some ⟨q,0,none⟩)] W fun en w'=>en=.returned (.string BB)∧Kept W w'):=qh (fun W h=>(qkd (hR.kept h) hG).mono fun en w' ⟨b,h1,h2,h3⟩=>by
  refine⟨?_,h3⟩;rw[h1,hBB];congr 1
  congr 1
  obtain⟨⟨bl⟩⟩:=b;have h4:bl=bytesD S:=h2.trans hD.bytes.symm;rw[h4])
 have LR:Hid (∀W,Kept w W→Calls prog 50 #[.pointer (some ⟨q,0,none⟩)] W (qcQ (qak (stR L)) W)):=qh (fun W h=>qeU (hR.kept h) hG);obtain⟨FL,hFL⟩: ∃FL,FL=qak (stR L):=⟨_,rfl⟩
 have HPR:Hid ((qak S).map (prL S)=FL.map (prL (stR L))):=qh (by rw[hFL];exact hD.prs);have HLF:=qh (show FL.length≤87381 by have h1:=qc hG.whole;have h2:=hG.len;have h3:(stR L).L.length=L.length:=(by simp[stR]);rw[hFL];omega)
 have HFI:Hid (∀k∈FL,∃m,L[k]? =some m∧prL (stR L) k=(m.sq,m.told)):=qh fun k hk=>by
  rw[hFL]at hk;have h1:=qbD hG.whole k hk;obtain⟨m,hm⟩: ∃m,L[k]? =some m:=⟨_,List.getElem?_eq_getElem (by simpa [stR] using h1)⟩
  exact⟨m,hm,by unfold prL;rw[qdN hm];rfl⟩
 rw[←hFL]at LR;have HS:=qh hS;have HW:=qh hW;have HG:=qh hG;have HM:=qh hM;obtain⟨gt,ot,ct,rfl,-,hgt,hgp,hcell,-⟩:=hR.form hG.pos;have HCL:=qh (fun(k:Nat) (m:NdR) (i:Nat) (y:Value) (hm:L[k]? =some m) (hy:(rdV m)[i]? =some y)=>show w.cell? ⟨gt,ot+k*14+i,none⟩=some y by rw[Nat.add_assoc];exact hcell k m i y hm hy);have HGT:=qh hgt;have HR:=qh hR;have HR0:=qh (And.intro hr0 hr0s);have HS0:=qh hs0;have HPS:=qh hG.pos;have HTR:=qh hM.own;have HPL:=qh hM.box.lt;have HVL:=qh (fun k hk=>(hM.own.lt k hk).2);clear hM hS hW hR hG hD hT hc1 hc2 hc0 har har2 hn0 hm0' hnm hr0 hr0s hs0 hdd hBB hFL hcell hgt hgp;refine callsIn_wide.1 (callsIn_of_wp_marks (n:=5) func17 rfl trivial ?_ rfl);simp only[ntmps17,List.size_toArray,List.length_cons,List.length_nil,Nat.reduceAdd,Nat.reduceSub,Array.replicate_succ,Array.replicate_zero,List.push_toArray,List.append_toArray,List.nil_append,List.cons_append];refine wpIn_wide.2 ?_;refine wp_mono (Q:=qfc _) ?_ qdn;go_upto_region 1 with fail
 obtain⟨b,w1,hw,hb,B0,B1,B2,K1,HB⟩:=qcj w [.pointer (some ⟨q,0,none⟩)] 53 [.int .i64 0] 3 [.bool false] 4;rw[←hw,←hb];clear hw hb;have b0:=B0.out.c 0 rfl;go_upto_region 9 with (first|(go_at_call 44;(with_reducible refine(CT.out _ K1.out).mono ?_);rintro e w2 ⟨rfl,hk2⟩;have J2:=qh hk2;clear hk2;have b0:=(B0.out.kept J2.out).c 0 rfl)|(go_at_call 47;(with_reducible refine(CR.out _ (K1.out.trans' J2.out)).mono ?_);rintro e w3 ⟨rfl,hk3⟩;have J3:=qh (J2.out.trans' hk3);clear hk3))
 clear b0 CT CR J2;refine wp_region_list ?_;refine wpList_plain rfl fun K hK=>?_;go_step;refine hK _ _ ?_;clear hK K;refine wpList_plain rfl fun K hK=>?_;go_step;refine(AT.out _ (K1.out.trans' J3.out)).mono ?_;rintro e w5 ⟨rfl,hk5⟩;have J5:=qh (J3.out.trans' hk5);clear hk5 J3 AT
 iterate 5
  refine hK _ _ ?_;clear hK K;refine wpList_plain rfl fun K hK=>?_;go_step
 refine hK _ _ ?_;clear hK K;refine wpList_plain rfl fun K hK=>?_;go_step;refine hK _ _ ?_;clear hK K;have J5x0:=qh (Kept.new J5.out (.cells (LC0 false ⟨#[]⟩ 0).toArray 24));have Bx0:=qh (Bx.new w5 (LC0 false ⟨#[]⟩ 0) 24 w5.heap.size rfl);obtain⟨x0,hx0⟩: ∃x,x=w5.heap.size:=⟨_,rfl⟩
 have Hx0:=qh (show w1.heap.size≤x0 by have:=J5.out.size;omega);rw[←hx0]at Bx0⊢;clear hx0;generalize World.alloc w5 _=w5_0 at *;refine wpList_plain rfl fun K hK=>?_;go_step;refine hK _ _ ?_;clear hK K;have J5x1:=qh (Kept.new J5x0.out (.cells (LC0 false ⟨#[]⟩ 0).toArray 24));have Bx1:=qh (Bx.new w5_0 (LC0 false ⟨#[]⟩ 0) 24 w5_0.heap.size rfl);have Lx0x1:=qh (show x0<w5_0.heap.size from Bx0.out.lt);replace Bx0:=qh (Bx0.out.kept (Kept.new (Below.refl _ _) (.cells (LC0 false ⟨#[]⟩ 0).toArray 24)));obtain⟨x1,hx1⟩: ∃x,x=w5_0.heap.size:=⟨_,rfl⟩
 have Hx1:=qh (show w1.heap.size≤x1 by have:=J5x0.out.size;omega);have Nx0x1:=qh (show x0≠x1 by have:=Lx0x1.out;omega);rw[←hx1]at Bx1⊢;clear hx1;generalize World.alloc w5_0 _=w5_1 at *;refine wpList_plain rfl fun K hK=>?_;go_step;refine hK _ _ ?_;clear hK K;have J5x2:=qh (Kept.new J5x1.out (.cells (LC0 false ⟨#[]⟩ 0).toArray 24));have Bx2:=qh (Bx.new w5_1 (LC0 false ⟨#[]⟩ 0) 24 w5_1.heap.size rfl);have Lx0x2:=qh (show x0<w5_1.heap.size from Bx0.out.lt);replace Bx0:=qh (Bx0.out.kept (Kept.new (Below.refl _ _) (.cells (LC0 false ⟨#[]⟩ 0).toArray 24)));have Lx1x2:=qh (show x1<w5_1.heap.size from Bx1.out.lt);replace Bx1:=qh (Bx1.out.kept (Kept.new (Below.refl _ _) (.cells (LC0 false ⟨#[]⟩ 0).toArray 24)));obtain⟨x2,hx2⟩: ∃x,x=w5_1.heap.size:=⟨_,rfl⟩
 have Hx2:=qh (show w1.heap.size≤x2 by have:=J5x1.out.size;omega);have Nx0x2:=qh (show x0≠x2 by have:=Lx0x2.out;omega);have Nx1x2:=qh (show x1≠x2 by have:=Lx1x2.out;omega);rw[←hx2]at Bx2⊢;clear hx2;generalize World.alloc w5_1 _=w5_2 at *;refine wpList_plain rfl fun K hK=>qaa (vs:=(dyL a1)) (b:=x0) (n:=3) _ _ rfl rfl rfl Bx0.out rfl rfl (by kernel_rfl) rfl (hK _ _ ?_);clear hK K;replace Bx0:=qh (Bx0.out.row (dyL a1));replace Bx1:=qh (Bx1.out.off (g:=x0) Nx0x1.out.symm (dyL a1));replace Bx2:=qh (Bx2.out.off (g:=x0) Nx0x2.out.symm (dyL a1));replace J5x2:=qh (Kept.row J5x2.out Hx0.out (dyL a1));generalize World.setRow w5_2 _ _=w5_2s0 at *;refine wpList_plain rfl fun K hK=>qaa (vs:=(dyL a2)) (b:=x1) (n:=3) _ _ rfl rfl rfl Bx1.out rfl rfl (by kernel_rfl) rfl (hK _ _ ?_);clear hK K;replace Bx1:=qh (Bx1.out.row (dyL a2));replace Bx0:=qh (Bx0.out.off (g:=x1) Nx0x1.out (dyL a2));replace Bx2:=qh (Bx2.out.off (g:=x1) Nx1x2.out.symm (dyL a2));replace J5x2:=qh (Kept.row J5x2.out Hx1.out (dyL a2));generalize World.setRow w5_2s0 _ _=w5_2s1 at *;refine wpList_plain rfl fun K hK=>qaa (vs:=(dyL a0)) (b:=x2) (n:=3) _ _ rfl rfl rfl Bx2.out rfl rfl (by kernel_rfl) rfl (hK _ _ ?_);clear hK K;replace Bx2:=qh (Bx2.out.row (dyL a0));replace Bx0:=qh (Bx0.out.off (g:=x2) Nx0x2.out (dyL a0));replace Bx1:=qh (Bx1.out.off (g:=x2) Nx1x2.out (dyL a0));replace J5x2:=qh (Kept.row J5x2.out Hx2.out (dyL a0));generalize World.setRow w5_2s1 _ _=w5_2s2 at *;have J6:=J5x2;have b0:=(B0.out.kept J6.out).c 0 rfl;go_upto_region 10 with fail
 refine wp_region_list ?_;refine wpList_plain rfl fun K hK=>?_;go_step;refine hK _ _ ?_;clear hK K;refine wpList_plain rfl fun K hK=>?_;go_step;refine(AR.out _ (K1.out.trans' J6.out)).mono ?_;rintro e w7 ⟨rfl,hk7⟩;have J7:=qh (J6.out.trans' hk7);replace Bx0:=qh (Bx0.out.kept hk7);replace Bx1:=qh (Bx1.out.kept hk7);replace Bx2:=qh (Bx2.out.kept hk7);clear hk7 AR b0
 iterate 3
  refine hK _ _ ?_;clear hK K;refine wpList_plain rfl fun K hK=>?_;go_step
 refine hK _ _ ?_;clear hK K;refine wpList_plain rfl fun K hK=>?_;go_step;refine hK _ _ ?_;clear hK K;have K8:=qh (Kept.new (Below.refl _ w7) (.cells ZL5.toArray 112));have Bx3:=qh (Bx.new w7 ZL5 112 w7.heap.size rfl);obtain⟨x3,hx3⟩: ∃x,x=w7.heap.size:=⟨_,rfl⟩
 have Hx3:=qh (show w7.heap.size≤x3 by omega);rw[←hx3]at Bx3⊢;clear hx3;generalize World.alloc w7 _=w8 at *;refine wpList_plain rfl fun K hK=>qaa (vs:=dyL a1++dyL a2++dyL a0) (b:=x3) (n:=9) _ _ rfl rfl rfl Bx3.out rfl rfl (by kernel_rfl) rfl (hK _ _ ?_);clear hK K;replace Bx3:=qh (Bx3.out.row (dyL a1++dyL a2++dyL a0));replace K8:=qh (Kept.row K8.out Hx3.out (dyL a1++dyL a2++dyL a0));generalize World.setRow w8 _ _=w9 at *;have J9:=qh (J7.out.trans' K8.out);replace Bx0:=qh (Bx0.out.kept K8.out);replace Bx1:=qh (Bx1.out.kept K8.out);replace Bx2:=qh (Bx2.out.kept K8.out);have KW9:=qh (K1.out.trans' J9.out);have HB9:=qh (B0.out.kept J9.out);have HR9:=qh (HR.out.box.kept KW9.out);clear J7 J6 K8;go_upto_region 11 with fail
 have h0L:(0:Int)<(L.length:Int):=by have:=HPS.out;omega
 have h0N:0<L.length:=HPS.out;have hqs: ∀W,(binOp .neq 26 (.agg (qal s0).toArray) (.agg (qal s0).toArray)).run prog W=.ok (.bool false) W:=qgV s0;have hqa: ∀W,(binOp .neq 112 (.agg (dyL a1++dyL a2++dyL a0).toArray) (.agg (dyL a1++dyL a2++dyL a0).toArray)).run prog W=.ok (.bool false) W:=qma a1 a2 a0;have hqb: ∀W,(binOp .neq 112 (.agg (dyL a1++(dyL a2++dyL a0)).toArray) (.agg (dyL a1++(dyL a2++dyL a0)).toArray)).run prog W=.ok (.bool false) W:=by intro W;rw[←List.append_assoc];exact hqa W
 have HR0C:Hid (∀i y,(qal s0)[i]? =some y→w9.cell? ⟨gt,ot+i,none⟩=some y):=qh fun i y hy=>(KW9.out.cells gt (ot+i) HGT.out).trans (by have h:=HCL.out 0 r0 i y HR0.out.1 (by rw[HS0.out,←HR0.out.2]at hy;have h7:i<7:=(List.getElem?_eq_some_iff.1 hy).1;rcases(show i=0∨i=1∨i=2∨i=3∨i=4∨i=5∨i=6 by omega)with rfl|rfl|rfl|rfl|rfl|rfl|rfl<;>exact hy);rw[Nat.zero_mul,Nat.add_zero]at h;exact h);have hS0:Kept w9 w9.drew:=(Below.refl _ w9).drew;refine qac (fun Z=>Kept w9 Z) [51] (by kernel_rfl) ?_ (fun hHeld=>?_)
 ·assumption
 refine wS 0 99 ?_;refine wS 2 101 ?_ (hy:=fun w hSw=>by have y0:=(HB9.out.kept hSw).c 0 rfl;go_simp;(try with_reducible rfl));refine wS 3 102 ?_;refine wS 4 103 ?_;refine wS 5 104 ?_ (hy:=fun w hSw=>by have y0:=(HR9.out.kept hSw).c 12 rfl;go_simp;(try with_reducible rfl));refine wS 6 105 ?_;refine wS 7 106 ?_;refine yS (v:=.agg (qal s0).toArray) 8 107 ?_ ?_
 ·intro w hSw;(try dsimp only at hSw);exact qa5 (vs:=qal s0) _ rfl rfl (fun i z hz=>(Kept.cells hSw gt (ot+i) (Nat.lt_of_lt_of_le HGT.out KW9.out.size)).trans (HR0C.out i z hz)) underlying26 rfl (by kernel_rfl)
 try simp only[Act.put,tdy]
 refine oS 1 fun K hK=>?_;go_simp;(refine(SQ.out _ (KW9.out.trans' hS0)).mono ?_;rintro e wa ⟨rfl,hka⟩;have KA:=qh (hS0.trans' hka);have hSa:=KA.out)
 refine hK.out _ _ ?_ (fun hHeld=>?_)
 ·assumption
 clear hK K;try simp only[Act.put,tdy]
 refine wS 9 108 ?_ (hy:=fun w hSw=>by have y0:=hqs w;go_simp;(try with_reducible rfl));refine wS 10 109 ?_;refine wS 11 110 ?_;refine wS 13 112 ?_ (hy:=fun w hSw=>by have y0:=(HB9.out.kept hSw).c 0 rfl;go_simp;(try with_reducible rfl));refine oS 12 fun K hK=>?_;go_simp;(refine(DT.out _ (KW9.out.trans' KA.out)).mono ?_;rintro e wb ⟨rfl,hkb⟩;have KB:=qh (KA.out.trans' hkb);have hSb:=KB.out)
 refine hK.out _ _ ?_ (fun hHeld=>?_)
 ·assumption
 clear hK K;try simp only[Act.put,tdy]
 refine oS 14 fun K hK=>?_;go_simp;(refine(DR.out _ (KW9.out.trans' KB.out)).mono ?_;rintro e wd ⟨rfl,hkd⟩;have KD:=qh (KB.out.trans' hkd);have hSd:=KD.out)
 refine hK.out _ _ ?_ (fun hHeld=>?_)
 ·assumption
 clear hK K;try simp only[Act.put,tdy]
 refine wS 15 114 ?_;refine wS 16 115 ?_;refine wS 17 116 ?_;refine wS 18 117 ?_;refine wS 19 118 ?_;refine wS 20 119 ?_;refine wS 21 120 ?_;refine wS 22 121 ?_;refine wS 23 122 ?_;refine wS 24 123 ?_;refine wS 25 124 ?_;refine wS 26 125 ?_;refine wS 27 126 ?_;refine wS 28 127 ?_;refine wS 29 128 ?_;refine wS 30 129 ?_;refine wS 31 130 ?_;refine wS 32 131 ?_;refine wS 33 132 ?_;refine wS 34 133 ?_;refine wS 35 134 ?_;refine wS 36 135 ?_;refine wS 37 136 ?_;refine yS (v:=.agg (dyL a1).toArray) 38 137 ?_ ?_
 ·intro w hSw;(try dsimp only at hSw);exact qao (vs:=dyL a1) (n:=3) _ rfl rfl (Bx0.out.kept hSw) rfl underlying24 rfl (by kernel_rfl)
 try simp only[Act.put,tdy]
 refine yS (v:=.agg (dyL a2).toArray) 39 138 ?_ ?_
 ·intro w hSw;(try dsimp only at hSw);exact qao (vs:=dyL a2) (n:=3) _ rfl rfl (Bx1.out.kept hSw) rfl underlying24 rfl (by kernel_rfl)
 try simp only[Act.put,tdy]
 refine yS (v:=.agg (dyL a0).toArray) 40 139 ?_ ?_
 ·intro w hSw;(try dsimp only at hSw);exact qao (vs:=dyL a0) (n:=3) _ rfl rfl (Bx2.out.kept hSw) rfl underlying24 rfl (by kernel_rfl)
 try simp only[Act.put,tdy]
 refine yS (v:=.agg (dyL a1++dyL a2++dyL a0).toArray) 41 140 ?_ ?_
 ·intro w hSw;exact qbn (dyL a1++dyL a2++dyL a0) rfl (by kernel_rfl)
 try simp only[Act.put,tdy]
 refine yS (v:=.agg (dyL a1++dyL a2++dyL a0).toArray) 42 141 ?_ ?_
 ·intro w hSw;(try dsimp only at hSw);exact qao (vs:=dyL a1++dyL a2++dyL a0) (n:=9) _ rfl rfl (Bx3.out.kept hSw) rfl underlying112 rfl (by kernel_rfl)
 try simp only[Act.put,tdy]
 refine wS 43 142 ?_ (hy:=fun w hSw=>by have y0:=hqb w;go_simp;(try with_reducible rfl));refine wS 44 143 ?_;refine wS 45 144 ?_;refine wS 46 145 ?_;refine wS 48 147 ?_ (hy:=fun w hSw=>by have y0:=(HB9.out.kept hSw).c 0 rfl;go_simp;(try with_reducible rfl));refine oS 47 fun K hK=>?_;go_simp;(refine(BT.out _ (KW9.out.trans' KD.out)).mono ?_;rintro e wf ⟨rfl,hkf⟩;have KF:=qh (KD.out.trans' hkf);have hSf:=KF.out)
 refine hK.out _ _ ?_ (fun hHeld=>?_)
 ·assumption
 clear hK K;try simp only[Act.put,tdy]
 refine oS 49 fun K hK=>?_;go_simp;(refine(BR.out _ (KW9.out.trans' KF.out)).mono ?_;rintro e wg ⟨rfl,hkg⟩;have KG:=qh (KF.out.trans' hkg);have hSg:=KG.out)
 refine hK.out _ _ ?_ (fun hHeld=>?_)
 ·assumption
 clear hK K;try simp only[Act.put,tdy]
 refine wS 50 149 ?_;refine eS 51 fun K hK=>?_;go_simp;refine hK.out _ _ ?_;clear hK K;try simp only[Act.put,tdy]
 refine dS ?_ _;have J10:=qh (J9.out.trans' KG.out);clear hS0 hSa hSb hSd hSf hSg hHeld KA KB KD KF KG SQ DT DR BT BR HB9 HR9 Bx0 Bx1 Bx2 Bx3 KW9 J9 HR0C;generalize wg=w10 at *;have b0:=(B0.out.kept J10.out).c 0 rfl;go_upto_region 13 with fail
 refine wp_region_list ?_;refine wpList_plain rfl fun K hK=>?_;go_step;refine hK _ _ ?_;clear hK K;refine wpList_plain rfl fun K hK=>?_;go_step;refine(LR.out _ (K1.out.trans' J10.out)).mono ?_;rintro e w11 ⟨x,rfl,hO,hk11⟩;have HO:=qh hO;have J11:=qh (J10.out.trans' hk11);clear hk11 hO LR b0;obtain⟨AL,cl,rfl,hnc,hcm,-,-,-⟩:=HO.out.form;refine hK _ _ ?_;clear hK K;refine wpList_plain rfl fun K hK=>?_;go_step;refine hK _ _ ?_;clear hK K;have K12:=qh (Kept.new (Below.refl _ w11) (.cells #[.slice none 0 0] 98));have BL:=qh (Bx.new w11 [.slice none 0 0] 98 w11.heap.size rfl);obtain⟨bl,hbl⟩: ∃x,x=w11.heap.size:=⟨_,rfl⟩
 have HBL:=qh (show w11.heap.size≤bl by omega);rw[←hbl]at BL⊢;clear hbl;generalize World.alloc w11 _=w12 at *;have l0:=BL.out.c 0 rfl;have m0:=BL.out.f 0;refine wpList_plain rfl fun K hK=>?_;go_step;refine hK _ _ ?_;clear hK K;replace BL:=qh (BL.out.set 0 (.slice AL FL.length cl) (by simp));replace K12:=qh (K12.out.setCell (p:=⟨bl,0,none⟩) HBL.out (.slice AL FL.length cl));clear l0 m0;generalize World.setCell w12 _ _=w13 at *;go_upto_region 14 with fail
 refine wp_region_list ?_;refine wpList_plain rfl fun K hK=>?_;go_step;refine hK _ _ ?_;clear hK K;have K14:=qh (Kept.new (Below.refl _ w13) (.cells #[.int .i64 0] 3));have BN:=qh (Bx.new w13 [.int .i64 0] 3 w13.heap.size rfl);obtain⟨bn,hbn⟩: ∃x,x=w13.heap.size:=⟨_,rfl⟩
 have HBN:=qh (show w13.heap.size≤bn by omega);have HLN:=qh (show bl<bn by have:=BL.out.lt;omega);rw[←hbn]at BN⊢;clear hbn;generalize World.alloc w13 _=w14 at *;have l0:=BN.out.c 0 rfl;have m0:=BN.out.f 0;refine wpList_plain rfl fun K hK=>?_;go_step;refine hK _ _ ?_;clear hK K;replace BN:=qh (BN.out.set 0 (.int .i64 0) (by simp));replace K14:=qh (K14.out.setCell (p:=⟨bn,0,none⟩) HBN.out (.int .i64 0));clear l0 m0;generalize World.setCell w14 _ _=w15 at *;replace BL:=qh (BL.out.kept K14.out);have HO15:=qh ((HO.out.kept K12.out).kept K14.out);have J15:=qh ((J11.out.trans' K12.out).trans' K14.out);have K15:=qh (K1.out.trans' J15.out);have HOB:=qh (show∀i,(Value.slice AL FL.length cl).ownBlock=some i→i<bn from fun i hi=>by have h1:=(HO.out.lt i hi).2;have h2:=HBL.out;have h3:=HLN.out;omega);have HWB:=qh (show w.heap.size≤bn from Nat.le_trans (K1.out.trans' J11.out).size (by have h2:=HBL.out;have h3:=HLN.out;omega));have HBB:=qh (show b+2<bn by have h1:=(B2.out.kept J11.out).lt;have h2:=HBL.out;have h3:=HLN.out;omega);clear K12 K14 J11 HO HBL HBN J10;go_wp2_with (go_at_call 21;(with_reducible refine(qkO p _).mono ?_);rintro e w7 ⟨Bc,rfl,hk7,hBc,hbx⟩;have K7:=qh (K15.out.trans' hk7);have J7:=qh (J15.out.trans' hk7);have HM7:=qh (HM.out.kept (K15.out.trans' hk7));have HBX:=qh hbx;have HBC:=qh (show bn<Bc by have:=BN.out.lt;omega);replace BN:=qh (BN.out.kept hk7);replace BL:=qh (BL.out.kept hk7);have HO7:=qh (HO15.out.kept hk7);clear hk7 hbx hBc;have hf1: ∀W,(binOp .eql 62 (.func (.func 52) #[] #[.pointer (some ⟨Bc,0,none⟩)]) .nilFunc).run prog W=.ok (.bool false) W:=fun W=>by kernel_rfl)
 refine qoG fun A0 hA=>?_;have HA:=qh hA;have hev:A0.eval (.tmp 154)=.func (.func 52) #[] #[.pointer (some ⟨Bc,0,none⟩)]:=by rw[hA];rfl
 have HWS:=qh (show w.heap.size≤w7.heap.size from K7.out.size);have HBNL:=qh BN.out.lt;have HQ:=qh (HR.out.box.kept K7.out);have HB7:=qh (B0.out.kept J7.out);have HB71:=qh (B1.out.kept J7.out);have HB72:=qh (B2.out.kept J7.out);clear hA hf1 HO15 K15 J15
 refine(wpIn_wide (n:=5)).1 (qbr (α:=Nat) rfl (by decide) (gf:=52) (lb:=#[.pointer (some ⟨Bc,0,none⟩)]) hev trivial (enters_of func52 (by kernel_rfl) rfl)
  (qjt 4 (by omega) HM7.out HS.out HW.out HBX.out (B0:=w7.heap.size) (U:=fun _ k=>k=bn) (qpp HBNL.out) (fun W k hk hu=>by
   have h1:=HWB.out;have h2:=HPL.out;have h3:=HBC.out;rcases hk with rfl|rfl|hk
   ·omega
   ·omega
   ·have:=HVL.out _ hk;omega))
  (qpp HBNL.out) (Below.refl _ _) (fun k=>by unfold qih;split<;>rfl)
  (fun pre W=>Far (fun k=>k=bn) w7 W∧Bx W bn [.int .i64 (pre.length:Int)]) (fun _ _ _=>False)
  (fun s A B row ⟨h1,h2⟩ hg hr=>⟨qlO h1 hg (fun r e=>(hr r e).1),h2.qbz (w:=w) rfl hg (fun r e=>(hr r e).2)⟩) (fun _ s A B row h _ _=>h.elim)
  (fun s A B row ⟨h1,h2⟩ hg hr=>⟨qlO h1 hg (fun r e=>(hr r e).1),h2.qbw hg (fun e=>(hr _ e).2 rfl)⟩) (fun _ s A B row h _ _=>h.elim)
  (fun pre W h k hk=>by rw[hk];exact h.2.lt)
  ⟨Far.refl _ _,BN.out⟩
  (fun k a' W=> ∃(y:Nat) (n:NdD) (i:Nat),(qak S)[i]? =some k∧Bx W bn [.int .i64 (i:Int)]∧S.L[k]? =some n∧w7.heap.size≤y∧Bx W y (qal n.sq)∧a'=⟨(((A0.tmps.setIfInBounds 155 (.agg (qal n.sq).toArray)).setIfInBounds 156 (.int .u8 (n.told:Int))).setIfInBounds 28 (.pointer (some ⟨y,0,none⟩))).setIfInBounds 29 (.int .u8 (n.told:Int)),[]⟩)
  (fun x a' _ A B row ⟨y,n,i,g1,g2,h1,h2,h3,h4⟩ hg hr=>⟨y,n,i,g1,g2.qbz (w:=w) rfl hg (fun r e=>(hr r e).2),h1,h2,h3.qbw hg (fun e=>by obtain⟨o,ho,hc⟩:=(hr y e).2;obtain⟨o',ho',hc'⟩:=cells_of_cell (h3.c 0 rfl);rw[ho]at ho';cases ho';rw[hc]at hc';cases hc'),h4⟩)
  ?assign ?body ?done (fun D c pre W _ _ h _=>h.elim))
 case assign=>
  rintro l pre k W K2 hI ⟨t,ht⟩ hK2;have hkm:k∈qak S:=by rw[ht];simp
  obtain⟨n,hn⟩: ∃n,S.L[k]? =some n:=⟨_,List.getElem?_eq_getElem (qbD HW.out k hkm)⟩
  have he:qih S k=#[.agg (qal n.sq).toArray,.int .u8 (n.told:Int)]:=by unfold qih;rw[hn];rfl
  have HK:=qh hK2;have HI:=qh hI;have HN:=qh hn;have HPK:=qh (show(qak S)[pre.length]? =some k by rw[ht];simp);have hA:=HA.out;rw[he];clear hK2 hI hn he hkm ht;rw[hA];gi_upto_region 16 with fail
  refine wpIn_region_list ?_;refine wpListIn_plain rfl fun K hK=>?_;refine Oper.qbl (fun c h=>by cases h) ?_;go_step;refine hK _ _ ?_;clear hK K;have KY:=qh (Kept.new (Below.refl _ W) (.cells ZL4.toArray 26));have BY:=qh (Bx.new W ZL4 26 W.heap.size rfl);obtain⟨y,hy⟩: ∃y,y=W.heap.size:=⟨_,rfl⟩
  have HY:=qh (show W.heap.size≤y by omega);rw[←hy]at BY⊢;clear hy;generalize World.alloc W _=w4 at *;refine wpListIn_plain rfl fun K hK=>Oper.qbl (fun c h=>by cases h) (qaa (vs:=qal n.sq) (b:=y) (n:=7) _ _ rfl rfl rfl BY.out rfl rfl (by kernel_rfl) rfl (hK _ _ ?_));clear hK K;replace BY:=qh (BY.out.row (qal n.sq));replace KY:=qh (Kept.row KY.out HY.out (qal n.sq));generalize World.setRow w4 _ _=w5 at *;gi_wp2_with fail
  refine HK.out _ _ ⟨KY.out.size,fun k o _ ho _=>(KY.out.block k (Array.getElem?_eq_some_iff.1 ho).1).trans ho⟩ ⟨KY.out.size,fun k o ho _ _=>(KY.out.block k (Array.getElem?_eq_some_iff.1 ho).1).trans ho,fun _ h=>.inl h⟩ ⟨HI.out.1.then KY.out,HI.out.2.kept KY.out⟩ ⟨y,n,pre.length,HPK.out,HI.out.2.kept KY.out,HN.out,Nat.le_trans HI.out.1.size HY.out,BY.out,?_⟩;rw[hA];simp only[List.setIfInBounds_toArray,List.set_cons_zero,List.set_cons_succ]
 case body=>
  rintro l pre k a' W hl ⟨rc,hrc⟩ ⟨hfr,hbn⟩ ⟨y,n,i,hpk,hbi,hn,hy,hby,rfl⟩ hlen
  obtain rfl:i=pre.length:=by
   have h1:=(hbi.c 0 rfl).symm.trans (hbn.c 0 rfl);simp at h1;omega
  have hmap:=HPR.out
  have hjF:pre.length<FL.length:=by
   have h1:=congrArg List.length hmap;simp at h1;have h2:=(List.getElem?_eq_some_iff.1 hpk).1;omega
  obtain⟨k2,hk2⟩: ∃k2,FL[pre.length]? =some k2:=⟨_,List.getElem?_eq_getElem hjF⟩
  obtain⟨m,hm,hmp⟩:=HFI.out k2 (List.mem_of_getElem? hk2)
  have hpp:(n.sq,n.told)=(m.sq,m.told):=by
   have h1:(List.map (prL S) (qak S))[pre.length]? =some (prL S k):=by rw[List.getElem?_map,hpk];rfl
   rw[hmap,List.getElem?_map,hk2]at h1;have h2:prL S k=(n.sq,n.told):=by unfold prL;rw[hn]
   rw[h2]at h1;have h3:=Option.some.inj h1;rw[←h3,hmp]
  have hsq:n.sq=m.sq:=congrArg Prod.fst hpp;have htd:n.told=m.told:=congrArg Prod.snd hpp;obtain⟨j,hj⟩: ∃j,j=pre.length:=⟨_,rfl⟩
  rw[←hj]at hbn hjF hk2;rcases HO7.out.2 with ⟨-,h0⟩|⟨g,off,cap,hv,hbg,hgl,hnc2,hcm2,hx,hc⟩
  ·omega
  cases hv;have hx1:=hx j (.int .i64 (k2:Int)) (by simp[qay,hk2]);have HFR:=qh hfr;have HBNW:=qh hbn;have HBYW:=qh hby;have HX1:=qh (show W.cell? ⟨g,off+j,none⟩=some (.int .i64 (k2:Int))from(World.cell?_of_block (a:=⟨g,off+j,none⟩) (hfr.block g hgl (by have:=HOB.out g rfl;show¬g=bn;omega))).trans hx1);have HCW:Hid (∀i z,(rdV m)[i]? =some z→W.cell? ⟨gt,ot+k2*14+i,none⟩=some z):=qh fun i z hz=>(World.cell?_of_block (a:=⟨gt,ot+k2*14+i,none⟩) (hfr.block gt (Nat.lt_of_lt_of_le HGT.out HWS.out) (by have:=HGT.out;have:=HWB.out;show¬gt=bn;omega))).trans ((K7.out.cells gt (ot+k2*14+i) HGT.out).trans (HCL.out k2 m i z hm hz));have HQW:=qh (HQ.out.to hfr (by have:=HR.out.box.lt;have:=HWB.out;show¬q=bn;omega));have HBW:=qh (HB7.out.to hfr (by have:=HBB.out;show¬b=bn;omega));have HB1W:=qh (HB71.out.to hfr (by have:=HBB.out;show¬b+1=bn;omega));have HLW:=qh (BL.out.to hfr (by have:=HLN.out;show¬bl=bn;omega));have HFR:=qh hfr;have HBNW:=qh hbn;have HBYW:=qh hby;have HJF:=qh hjF;have hGL:=qh (show gt<W.heap.size from Nat.lt_of_lt_of_le (Nat.lt_of_lt_of_le HGT.out HWS.out) hfr.size);have hGG:=qh (show g<W.heap.size from Nat.lt_of_lt_of_le hgl hfr.size);have hkm:(k2:Int)<(L.length:Int):=by have:=(List.getElem?_eq_some_iff.1 hm).1;omega
  have hk0:(0:Int)≤(k2:Int):=by omega
  have hjI:(j:Int)<(FL.length:Int):=by omega
  have hj0:(0:Int)≤(j:Int):=by omega
  have hjg: ¬(FL.length:Int)≤(j:Int):=by omega
  have ewj:IntKind.i64.wrap ((j:Int)+1)=((j+1:Nat):Int):=by have:=HLF.out;rw[IntWalk.i64_in _ (by omega)];omega
  have hj1: ¬((j+1:Nat):Int)=0:=by omega
  have hqm: ∀W,(binOp .neq 26 (.agg (qal m.sq).toArray) (.agg (qal m.sq).toArray)).run prog W=.ok (.bool false) W:=qgV m.sq;rw[hsq]at hby;have HBY:=qh hby;have HPL2:=qh (show(pre++[k]).length=j+1 by rw[List.length_append,hj];rfl);have hA:=HA.out;rw[hA,hsq,htd];simp only[List.setIfInBounds_toArray,List.set_cons_zero,List.set_cons_succ];clear hl hrc hfr hbn hpk hbi hn hy hby hlen hmap hjF hk2 hm hmp hpp hsq htd hbg hgl hnc2 hcm2 hx hc hx1 hA HBYW hj;have hS0:Kept W W.drew:=(Below.refl _ W).drew;gi_upto_region 18 with fail
  refine qcR (fun Z=>Kept W Z) [33] (by kernel_rfl) (by kernel_rfl) ?_ (fun hHeld=>?_)
  ·assumption
  refine wS 0 157 ?_ (hy:=fun w hSw=>by have y0:=(HBNW.out.kept hSw).c 0 rfl;go_simp;(try with_reducible rfl));refine wS 1 158 ?_ (hy:=fun w hSw=>by have y0:=(HLW.out.kept hSw).c 0 rfl;go_simp;(try with_reducible rfl));refine wS 2 159 ?_;refine wS 3 160 ?_;refine wS 4 161 ?_;refine yS (v:=.agg (qal m.sq).toArray) 5 162 ?_ ?_
  ·intro w hSw;(try dsimp only at hSw);exact qao (vs:=qal m.sq) (n:=7) _ rfl rfl (HBY.out.kept hSw) rfl underlying26 rfl (by kernel_rfl)
  try simp only[Act.put,tdy]
  refine wS 6 163 ?_ (hy:=fun w hSw=>by have y0:=(HBW.out.kept hSw).c 0 rfl;go_simp;(try with_reducible rfl));refine wS 7 164 ?_;refine wS 8 165 ?_;refine wS 9 166 ?_ (hy:=fun w hSw=>by have y0:=(HQW.out.kept hSw).c 12 rfl;go_simp;(try with_reducible rfl));refine wS 10 167 ?_ (hy:=fun w hSw=>by have y0:=(HLW.out.kept hSw).c 0 rfl;go_simp;(try with_reducible rfl));refine wS 11 168 ?_ (hy:=fun w hSw=>by have y0:=(HBNW.out.kept hSw).c 0 rfl;go_simp;(try with_reducible rfl));refine wS 12 169 ?_;refine wS 13 170 ?_ (hy:=fun w hSw=>by have y0:=(Kept.cells hSw g (off+j) hGG.out).trans HX1.out;go_simp;(try with_reducible rfl));refine wS 14 171 ?_;refine wS 15 172 ?_;refine yS (v:=.agg (qal m.sq).toArray) 16 173 ?_ ?_
  ·intro w hSw;(try dsimp only at hSw);exact qa5 (vs:=qal m.sq) (b:=gt) (off:=ot+k2*14) _ rfl rfl (fun i z hz=>(Kept.cells hSw gt (ot+k2*14+i) hGL.out).trans (HCW.out i z (by have h7:i<7:=(List.getElem?_eq_some_iff.1 hz).1;rcases(show i=0∨i=1∨i=2∨i=3∨i=4∨i=5∨i=6 by omega)with rfl|rfl|rfl|rfl|rfl|rfl|rfl<;>exact hz))) underlying26 rfl (by kernel_rfl)
  try simp only[Act.put,tdy]
  refine wS 17 174 ?_ (hy:=fun w hSw=>by have y0:=hqm w;go_simp;(try with_reducible rfl));refine wS 18 175 ?_;refine wS 19 176 ?_;refine wS 20 177 ?_;refine wS 21 178 ?_ (hy:=fun w hSw=>by have y0:=(HBW.out.kept hSw).c 0 rfl;go_simp;(try with_reducible rfl));refine wS 22 179 ?_;refine wS 23 180 ?_;refine wS 24 181 ?_ (hy:=fun w hSw=>by have y0:=(HQW.out.kept hSw).c 12 rfl;go_simp;(try with_reducible rfl));refine wS 25 182 ?_ (hy:=fun w hSw=>by have y0:=(HLW.out.kept hSw).c 0 rfl;go_simp;(try with_reducible rfl));refine wS 26 183 ?_ (hy:=fun w hSw=>by have y0:=(HBNW.out.kept hSw).c 0 rfl;go_simp;(try with_reducible rfl));refine wS 27 184 ?_;refine wS 28 185 ?_ (hy:=fun w hSw=>by have y0:=(Kept.cells hSw g (off+j) hGG.out).trans HX1.out;go_simp;(try with_reducible rfl));refine wS 29 186 ?_;refine wS 30 187 ?_;refine wS 31 188 ?_ (hy:=fun w hSw=>by have y0:=(Kept.cells hSw gt (ot+k2*14+8) hGL.out).trans (HCW.out 8 _ (show(rdV m)[8]? =some (.int .u8 (m.told:Int))from rfl));go_simp;(try with_reducible rfl));refine wS 32 189 ?_;refine eS 33 fun K hK=>?_;go_simp;refine hK.out _ _ ?_;clear hK K;try simp only[Act.put,tdy]
  refine dS ?_ _;refine qdS.ok ?_;have bn0:=(HBNW.out.kept hS0).c 0 rfl;have bf0:=(HBNW.out.kept hS0).f 0;have b10:=(HB1W.out.kept hS0).c 0 rfl;have HBN9:=qh ((HBNW.out.kept hS0).set 0 (.int .i64 ((j:Int)+1)) (by simp));have b11:(W.drew.setCell ⟨bn,0,none⟩ (.int .i64 ((j:Int)+1))).cell? ⟨b+1,0,none⟩=some (.int .i64 0):=((HB1W.out.kept hS0).far ⟨bn,0,none⟩ (by have:=HBB.out;show b+1≠bn;omega) (.int .i64 ((j:Int)+1))).c 0 rfl;have HFR9:=qh ((HFR.out.then hS0).set ⟨bn,0,none⟩ (.int .i64 ((j:Int)+1)) (fun _=>rfl));clear hS0 hHeld;have hKO:=KeepsOthers.drew W;have hWd:W.drew.heap=W.heap:=rfl;have hj2: ¬((j:Int)+1)=0:=by omega
  clear hj1;generalize W.drew=Wd at *;gi_wp2_with fail
  refine⟨(hKO.trans (KeepsOthers.setCell Wd _ _)).from _,⟨by simp[World.setCell,hWd],fun i o hi _ hu=>?_,fun i hi=>.inl hi⟩,HFR9.out,by rw[HPL2.out];exact HBN9.out⟩
  have e:(Wd.setCell ⟨bn,0,none⟩ (.int .i64 ((j:Int)+1))).heap[i]? =W.heap[i]? :=by
   simp only[World.setCell];rw[Array.getElem?_modify,if_neg (fun e=>hu e.symm),hWd]
  exact e.trans hi
 case done=>
  rintro D xs W hD rfl ⟨hfr,hbn⟩ hDef;rw[HA.out];dsimp only;have HDD:=qh hDef;have HDL:=qh hD;have hlen:(qak S).length=FL.length:=by have h1:=congrArg List.length HPR.out;simpa using h1
  rw[hlen]at hbn;have bn0:=hbn.c 0 rfl;have bl0:=(BL.out.to hfr (by have:=HLN.out;show¬bl=bn;omega)).c 0 rfl;have hB2:=HB72.out.to hfr (by have:=HBB.out;show¬b+2=bn;omega);have rc0:=hB2.c 0 rfl;have rf0:=hB2.f 0;have hkw:Kept w W:=K7.out.trans (hfr.kept K7.out.size (fun k hk e=>by have:=HWB.out;omega));have HKE:=qh (hkw.setCell (p:=⟨b+2,0,none⟩) (by have:=HB.out;show w.heap.size≤b+2;omega) (.bool true));have HDF:Hid (Defs w7.heap.size (World.setCell W ⟨b+2,0,none⟩ (.bool true)) [{target:=.collected D,args:=#[]}]):=qh ((show Defs w7.heap.size W [{target:=.collected D,args:=#[]}]from⟨D,rfl,HDL.out,HDD.out,by simp,trivial⟩).keeps (fun k o h hc=>(KeepsOthers.setCell W _ _).same k o h hc));have HSZ:=qh (show w7.heap.size≤(World.setCell W ⟨b+2,0,none⟩ (.bool true)).heap.size by have h1:=hfr.size;simp[World.setCell];omega);clear hfr hbn hDef hD hlen hB2 hkw HA hev;go_wp2_with fail
  show LeavesInM _ _ _ _ _ _ _ _ _;exact qhl (w:=w) (lo:=w7.heap.size) (x:=.bool true) (b:=b+2) _ HDF.out (World.cell?_setCell_same _ _ _ rc0) HKE.out HWS.out (fun W2 h=>by simp[results,f17,go_sem,h]) (fun W2 h=>⟨rfl,h⟩) HSZ.out
end
section
attribute [local go_sem] qaf qad
end
section
attribute [local go_sem] qaf qad
theorem Kept.far {s:Nat→Prop} {w a b:World} (hk:Kept w a) (hf:Far s a b) (hs: ∀k,s k→w.heap.size≤k):Kept w b:=
 ⟨hf.os.trans hk.os,hf.tape.trans hk.tape,hf.output.trans hk.output,Nat.le_trans hk.size hf.size,fun i hi=>(hf.block i (Nat.lt_of_lt_of_le hi hk.size) (fun e=>by have:=hs i e;omega)).trans (hk.block i hi)⟩
end
theorem TrM.qpP {W:World} {base p:Nat} {v:Value} {u:RuD} {S:StD} (h:TrM W base p v u S): ∀k,TrB p v k→base≤k:=by
 rintro k (rfl|hk)
 ·exact h.ge
 ·exact(h.own.lt k hk).1
def awU :RuD:=⟨1,⟨⟨false,⟨#[]⟩,0⟩,⟨false,⟨#[]⟩,0⟩⟩,⟨false,⟨#[]⟩,0⟩,4607182418800017408,4602678819172646912⟩
def awQ :SqD:=⟨⟨false,⟨#[]⟩,0⟩,⟨false,⟨#[]⟩,0⟩,1⟩
theorem qoC :awU.ok:=⟨by decide,by decide,⟨by decide,by decide,by decide⟩,⟨by decide,by decide,by decide⟩,⟨by decide,by decide,by decide⟩,by decide,by decide⟩
theorem qpK :awQ.ok:=⟨⟨by decide,by decide,by decide⟩,⟨by decide,by decide,by decide⟩,by decide,by decide⟩
theorem qht :sqB awQ=true∧(qah awQ).2=0:=⟨by decide +kernel,by decide +kernel⟩
theorem qo0 :(stepD (qbQ awU) (qey awU awQ)).2=1:=by decide +kernel
theorem qnX :bytesD (stepD (qbQ awU) (qey awU awQ)).1=[112,117,111,117,111]:=by decide +kernel
set_option maxRecDepth 100000 in
set_option maxHeartbeats 3200000 in
theorem qmH {w:World} (hT:T32 w) (hg:1<w.heap.size):
  Calls prog 6 #[] w fun en w'=>en=.returned (.bool true)∧Kept w w':=by
 have NW:Hid (Calls prog 9 #[.agg #[.bool false,.string ⟨#[]⟩,.int .i64 0,.bool false,.string ⟨#[]⟩,.int .i64 0,.int .i64 1],.iface 31 (.agg #[.int .i64 1,.bool false,.string ⟨#[]⟩,.int .i64 0,.bool false,.string ⟨#[]⟩,.int .i64 0,.bool false,.string ⟨#[]⟩,.int .i64 0,.float .f64 4607182418800017408,.float .f64 4602678819172646912])] w (qiQ w awU awQ)):=qh (new_any awQ qpK qoC hT);have HT:=qh hT;have HG:=qh hg;clear hT hg;go_enter func6,ntmps6
 go_upto_region 4 with (go_at_call 9;(with_reducible refine NW.out.mono ?_);rintro e w3 ⟨hk3,hn⟩;rw[if_pos qht]at hn;obtain⟨p,v,rfl,hM⟩:=hn;have HT3:=qh (HT.out.kept hk3);have HM:=qh hM;have K3:=qh hk3;clear hM hk3)
 have hst:=qnu HM.out (qfl qht.1) (qeR _ _) HT3.out qoC HG.out;rw[qo0]at hst;have HSG:=qh (qkg (u:=awU) (qfl (u:=awU) qht.1));have HSW:=qh (qjb (t:=qbQ awU) (qeR awU awQ));have HAB:=qh qnX;generalize(stepD (qbQ awU) (qey awU awQ)).1=S1 at *;have HST:=qh hst;clear hst;go_upto_region 5 with (go_at_call 24;(with_reducible refine HST.out.mono ?_);rintro e w4 ⟨rfl,hp⟩;obtain⟨v4,hM4,hF4,-⟩:=hp;have HM4:=qh hM4;have K4:=qh (K3.out.far hF4 HM.out.qpP);clear hM4 hF4)
 have hb:=qhz HM4.out HSG.out HSW.out;rw[HAB.out]at hb;have HBY:=qh hb;clear hb;go_wp2_with (go_at_call 13;(with_reducible refine HBY.out.mono ?_);rintro e w5 ⟨rfl,hk5⟩;have K5:=qh (K4.out.trans' hk5);clear hk5)
 exact bodyPost_ret (v:=.bool true) (by simp[results,results6,go_sem]) rfl ⟨rfl,K5.out⟩
section
attribute [local go_sem] qaf qad
set_option maxRecDepth 100000 in
set_option maxHeartbeats 6400000 in
theorem qlr {w:World} {s:SqD} {bs:ByteArray} {u:RuD} (hs:s.ok) (hu:u.ok) (hT:T32 w):
  Calls prog 4 #[.agg #[.bool s.left.neg,.string s.left.n,.int .i64 s.left.e,.bool s.low.neg,.string s.low.n,.int .i64 s.low.e,.int .i64 s.e],.string bs,.agg (ruL u).toArray] w fun en w'=>en=.returned (.bool true)∧Kept w w':=by
 have hgl:=lt_of_cell (hT 0 (by omega));have AW:=qh (fun W (hk:Kept w W)=>qmH (hT.kept hk) (Nat.lt_of_lt_of_le hgl hk.size));obtain⟨⟨a0,a1,a2⟩,⟨a3,a4,a5⟩,a6⟩:=s;obtain⟨uk,⟨⟨u0,u1,u2⟩,⟨u3,u4,u5⟩⟩,⟨u6,u7,u8⟩,ux,uy⟩:=u;obtain⟨SS,hSS⟩: ∃S:SqD,S=⟨⟨a0,a1,a2⟩,⟨a3,a4,a5⟩,a6⟩:=⟨_,rfl⟩
 obtain⟨U,hU⟩: ∃U:RuD,U=⟨uk,⟨⟨u0,u1,u2⟩,⟨u3,u4,u5⟩⟩,⟨u6,u7,u8⟩,ux,uy⟩:=⟨_,rfl⟩
 have RP:=qh (show bs.size≤1200→∀W,Kept w W→Calls prog 15 #[.agg #[.bool a0,.string a1,.int .i64 a2,.bool a3,.string a4,.int .i64 a5,.int .i64 a6],.string bs,.iface 31 (.agg #[.int .i64 uk,.bool u0,.string u1,.int .i64 u2,.bool u3,.string u4,.int .i64 u5,.bool u6,.string u7,.int .i64 u8,.float .f64 ux,.float .f64 uy])] W (qha W U SS bs.data.toList)from fun hl W hk=>by rw[hU,hSS];exact qop (w:=W) _ bs hs hu hl (hT.kept hk));have RD:=qh (show bs.size≤1200→∀W,Kept w W→Calls prog 16 #[.agg #[.bool a0,.string a1,.int .i64 a2,.bool a3,.string a4,.int .i64 a5,.int .i64 a6],.string bs,.agg #[.int .i64 uk,.bool u0,.string u1,.int .i64 u2,.bool u3,.string u4,.int .i64 u5,.bool u6,.string u7,.int .i64 u8,.float .f64 ux,.float .f64 uy]] W (qg7 W U SS bs.data.toList)from fun hl W hk=>by rw[hU,hSS];exact qlg (w:=W) _ bs hs hl);have HT:=qh hT;have hru:(ruL (⟨uk,⟨⟨u0,u1,u2⟩,⟨u3,u4,u5⟩⟩,⟨u6,u7,u8⟩,ux,uy⟩:RuD)).toArray=#[.int .i64 uk,.bool u0,.string u1,.int .i64 u2,.bool u3,.string u4,.int .i64 u5,.bool u6,.string u7,.int .i64 u8,.float .f64 ux,.float .f64 uy]:=rfl;rw[hru];simp only;clear hs hu hT hgl hSS hU hru;go_enter func4,ntmps4
 go_upto_region 1 with fail
 obtain⟨b,w1,hw,hb,B0,B1,K1,HB⟩:=qa6 w (LC3 a0 a1 a2 a3 a4 a5 a6) 26 [.int .i64 uk,.bool u0,.string u1,.int .i64 u2,.bool u3,.string u4,.int .i64 u5,.bool u6,.string u7,.int .i64 u8,.float .f64 ux,.float .f64 uy] 31;rw[←hw,←hb];clear hw hb;have haw:=AW.out w1 K1.out;by_cases hl:bs.size≤1200;rotate_left
 ·have hlI:(1200:Int)<(bs.size:Int):=by omega
  go_wp2_with (go_at_call 6;(with_reducible refine haw.mono ?_);rintro e w2 ⟨rfl,hk2⟩;have K2:=qh (K1.out.trans' hk2);clear hk2 haw)
  exact bodyPost_ret (v:=.bool true) (by simp[results,results4,go_sem]) rfl ⟨rfl,K2.out⟩
 have hlI: ¬(1200:Int)<(bs.size:Int):=by omega
 replace RP:=qh (RP.out hl);replace RD:=qh (RD.out hl);go_upto_region 3 with (go_at_call 6;(with_reducible refine haw.mono ?_);rintro e w2 ⟨rfl,hk2⟩;have K2:=qh (K1.out.trans' hk2);have J2:=qh hk2;clear hk2 haw)
 clear AW hl;by_cases hcond:sqB SS=true∧(qah SS).2=0;rotate_left
 ·obtain⟨ce,hce⟩: ∃ce,ce=(qfN SS).2:=⟨_,rfl⟩
  go_upto_region 5 with fail
  refine wp_region_list ?_;refine wpList_plain rfl fun K hK=>qag (vs:=(LC3 a0 a1 a2 a3 a4 a5 a6)) (b:=b) (n:=7) _ rfl rfl (B0.out.kept J2.out) rfl underlying26 rfl (by kernel_rfl) (hK _ _ ?_);clear hK K;refine wpList_plain rfl fun K hK=>?_;go_step;refine hK _ _ ?_;clear hK K;refine wpList_plain rfl fun K hK=>qag (vs:=[.int .i64 uk,.bool u0,.string u1,.int .i64 u2,.bool u3,.string u4,.int .i64 u5,.bool u6,.string u7,.int .i64 u8,.float .f64 ux,.float .f64 uy]) (b:=b+1) (n:=12) _ rfl rfl (B1.out.kept J2.out) rfl underlying31 rfl (by kernel_rfl) (hK _ _ ?_);clear hK K;refine wpList_plain rfl fun K hK=>?_;go_step;refine hK _ _ ?_;clear hK K;refine wpList_plain rfl fun K hK=>?_;go_step;refine(RP.out w2 K2.out).mono ?_;rintro en w3 ⟨hk3,hp⟩;have K3:=qh (K2.out.trans' hk3);have J3:=qh (J2.out.trans' hk3);rw[if_neg hcond]at hp;obtain⟨e,he,rfl,hee⟩:=hp;rw[←hce]at hee;subst hee;clear he;clear hk3
  iterate 5
   refine hK _ _ ?_;clear hK K;refine wpList_plain rfl fun K hK=>?_;go_step
  refine hK _ _ ?_;clear hK K;go_upto_region 6 with fail
  refine wp_region_list ?_;refine wpList_plain rfl fun K hK=>qag (vs:=(LC3 a0 a1 a2 a3 a4 a5 a6)) (b:=b) (n:=7) _ rfl rfl (B0.out.kept J3.out) rfl underlying26 rfl (by kernel_rfl) (hK _ _ ?_);clear hK K;refine wpList_plain rfl fun K hK=>?_;go_step;refine hK _ _ ?_;clear hK K;refine wpList_plain rfl fun K hK=>qag (vs:=[.int .i64 uk,.bool u0,.string u1,.int .i64 u2,.bool u3,.string u4,.int .i64 u5,.bool u6,.string u7,.int .i64 u8,.float .f64 ux,.float .f64 uy]) (b:=b+1) (n:=12) _ rfl rfl (B1.out.kept J3.out) rfl underlying31 rfl (by kernel_rfl) (hK _ _ ?_);clear hK K;refine wpList_plain rfl fun K hK=>?_;go_step;refine(RD.out w3 K3.out).mono ?_;rintro en w4 ⟨hk4,hp⟩;have K4:=qh (K3.out.trans' hk4);rw[if_neg hcond]at hp;subst hp;rw[←hce];clear hk4 hce hcond RP RD
  iterate 5
   refine hK _ _ ?_;clear hK K;refine wpList_plain rfl fun K hK=>?_;go_step
  refine hK _ _ ?_;clear hK K;have HLK:=qh (qh8 w4);go_wp2_with (go_at_call 17;(with_reducible refine HLK.out.mono ?_);rintro e w5 ⟨rfl,hk5⟩;have K5:=qh (K4.out.trans' hk5);clear hk5)
  exact bodyPost_ret (v:=.bool true) (by simp[results,results4,go_sem]) rfl ⟨rfl,K5.out⟩
 ·cases hr:qbU SS bs.data.toList with
  |none=>
   go_upto_region 5 with fail
   refine wp_region_list ?_;refine wpList_plain rfl fun K hK=>qag (vs:=(LC3 a0 a1 a2 a3 a4 a5 a6)) (b:=b) (n:=7) _ rfl rfl (B0.out.kept J2.out) rfl underlying26 rfl (by kernel_rfl) (hK _ _ ?_);clear hK K;refine wpList_plain rfl fun K hK=>?_;go_step;refine hK _ _ ?_;clear hK K;refine wpList_plain rfl fun K hK=>qag (vs:=[.int .i64 uk,.bool u0,.string u1,.int .i64 u2,.bool u3,.string u4,.int .i64 u5,.bool u6,.string u7,.int .i64 u8,.float .f64 ux,.float .f64 uy]) (b:=b+1) (n:=12) _ rfl rfl (B1.out.kept J2.out) rfl underlying31 rfl (by kernel_rfl) (hK _ _ ?_);clear hK K;refine wpList_plain rfl fun K hK=>?_;go_step;refine hK _ _ ?_;clear hK K;refine wpList_plain rfl fun K hK=>?_;go_step;refine(RP.out w2 K2.out).mono ?_;rintro en w3 ⟨hk3,hp⟩;have K3:=qh (K2.out.trans' hk3);have J3:=qh (J2.out.trans' hk3);rw[if_pos hcond,hr]at hp;subst hp;clear hk3
   iterate 5
    refine hK _ _ ?_;clear hK K;refine wpList_plain rfl fun K hK=>?_;go_step
   refine hK _ _ ?_;clear hK K;go_upto_region 6 with fail
   refine wp_region_list ?_;refine wpList_plain rfl fun K hK=>qag (vs:=(LC3 a0 a1 a2 a3 a4 a5 a6)) (b:=b) (n:=7) _ rfl rfl (B0.out.kept J3.out) rfl underlying26 rfl (by kernel_rfl) (hK _ _ ?_);clear hK K;refine wpList_plain rfl fun K hK=>?_;go_step;refine hK _ _ ?_;clear hK K;refine wpList_plain rfl fun K hK=>qag (vs:=[.int .i64 uk,.bool u0,.string u1,.int .i64 u2,.bool u3,.string u4,.int .i64 u5,.bool u6,.string u7,.int .i64 u8,.float .f64 ux,.float .f64 uy]) (b:=b+1) (n:=12) _ rfl rfl (B1.out.kept J3.out) rfl underlying31 rfl (by kernel_rfl) (hK _ _ ?_);clear hK K;refine wpList_plain rfl fun K hK=>?_;go_step;refine(RD.out w3 K3.out).mono ?_;rintro en w4 ⟨hk4,hp⟩;have K4:=qh (K3.out.trans' hk4);rw[if_pos hcond,hr]at hp;subst hp;clear hk4 hcond hr RP RD
   iterate 5
    refine hK _ _ ?_;clear hK K;refine wpList_plain rfl fun K hK=>?_;go_step
   refine hK _ _ ?_;clear hK K;have HLK:=qh (qh8 w4);go_wp2_with (go_at_call 17;(with_reducible refine HLK.out.mono ?_);rintro e w5 ⟨rfl,hk5⟩;have K5:=qh (K4.out.trans' hk5);clear hk5)
   exact bodyPost_ret (v:=.bool true) (by simp[results,results4,go_sem]) rfl ⟨rfl,K5.out⟩
  |some M=>
   go_upto_region 5 with fail
   refine wp_region_list ?_;refine wpList_plain rfl fun K hK=>qag (vs:=(LC3 a0 a1 a2 a3 a4 a5 a6)) (b:=b) (n:=7) _ rfl rfl (B0.out.kept J2.out) rfl underlying26 rfl (by kernel_rfl) (hK _ _ ?_);clear hK K;refine wpList_plain rfl fun K hK=>?_;go_step;refine hK _ _ ?_;clear hK K;refine wpList_plain rfl fun K hK=>qag (vs:=[.int .i64 uk,.bool u0,.string u1,.int .i64 u2,.bool u3,.string u4,.int .i64 u5,.bool u6,.string u7,.int .i64 u8,.float .f64 ux,.float .f64 uy]) (b:=b+1) (n:=12) _ rfl rfl (B1.out.kept J2.out) rfl underlying31 rfl (by kernel_rfl) (hK _ _ ?_);clear hK K;refine wpList_plain rfl fun K hK=>?_;go_step;refine hK _ _ ?_;clear hK K;refine wpList_plain rfl fun K hK=>?_;go_step;refine(RP.out w2 K2.out).mono ?_;rintro en w3 ⟨hk3,hp⟩;have K3:=qh (K2.out.trans' hk3);have J3:=qh (J2.out.trans' hk3);rw[if_pos hcond,hr]at hp;obtain⟨p,v,n,rfl,hM,hG,hWh⟩:=hp;have HM:=qh hM;have HG:=qh hG;have HWH:=qh hWh;clear hM hG hWh;clear hk3
   iterate 5
    refine hK _ _ ?_;clear hK K;refine wpList_plain rfl fun K hK=>?_;go_step
   refine hK _ _ ?_;clear hK K;go_upto_region 6 with fail
   refine wp_region_list ?_;refine wpList_plain rfl fun K hK=>qag (vs:=(LC3 a0 a1 a2 a3 a4 a5 a6)) (b:=b) (n:=7) _ rfl rfl (B0.out.kept J3.out) rfl underlying26 rfl (by kernel_rfl) (hK _ _ ?_);clear hK K;refine wpList_plain rfl fun K hK=>?_;go_step;refine hK _ _ ?_;clear hK K;refine wpList_plain rfl fun K hK=>qag (vs:=[.int .i64 uk,.bool u0,.string u1,.int .i64 u2,.bool u3,.string u4,.int .i64 u5,.bool u6,.string u7,.int .i64 u8,.float .f64 ux,.float .f64 uy]) (b:=b+1) (n:=12) _ rfl rfl (B1.out.kept J3.out) rfl underlying31 rfl (by kernel_rfl) (hK _ _ ?_);clear hK K;refine wpList_plain rfl fun K hK=>?_;go_step;refine(RD.out w3 K3.out).mono ?_;rintro en w4 ⟨hk4,hp⟩;have K4:=qh (K3.out.trans' hk4);rw[if_pos hcond,hr]at hp;obtain⟨q,v2,L,rfl,hR,hGR,T,ht1,ht2⟩:=hp;have HLK:=qh (qly (HM.out.kept hk4) HG.out HWH.out hR hGR (qkf HWH.out hGR.whole ht1 ht2) (HT.out.kept K4.out));clear hk4 hcond hr RP RD hR hGR ht1 ht2
   iterate 5
    refine hK _ _ ?_;clear hK K;refine wpList_plain rfl fun K hK=>?_;go_step
   refine hK _ _ ?_;clear hK K;go_wp2_with (go_at_call 17;(with_reducible refine HLK.out.mono ?_);rintro e w5 ⟨rfl,hk5⟩;have K5:=qh (K4.out.trans' hk5);clear hk5)
   exact bodyPost_ret (v:=.bool true) (by simp[results,results4,go_sem]) rfl ⟨rfl,K5.out⟩
end
section
set_option maxRecDepth 100000
open Go.ChangeShapes Go.WideShapes Go.ChangeAt Go.WideMaps Go.WideElems Go.RowKit Go.Deep
section
variable {H : Type} {enc : TypeId × Value → H} {w : World} {base : Nat} {spare : Nat → Bool} {held : Bool}
theorem qfH {P:Program} {fuel:Nat} {t:TypeId} {cs:List Value} {x:DataW H×List MemPlace} (ht:P.underlying t=some (.float .f64)) (h:DataW.trod enc P w base spare held fuel t cs=some x): ∃b:Nat,cs=[.float .f64 b]∧b<18446744073709551616:=by
 cases fuel with
 |zero=>simp[DataW.trod]at h
 |succ n=>
  unfold DataW.trod at h;rw[ht]at h;split at h<;>first|(simp_all;done)|skip
  rename_i k k' b he
  injection he with he;injection he with he;subst he;split at h
  ·rename_i hc
   obtain⟨rfl,hw⟩:=hc;exact⟨_,rfl,of_decide_eq_true hw⟩
  ·cases h
def DyD.qd3 (d:DyD):List Value:=(LC0 d.neg d.n d.e)
theorem qdq {fuel:Nat} {cs:List Value} {x:DataW H×List MemPlace} (h:DataW.trod enc prog w base spare held fuel 24 cs=some x): ∃d:DyD,d.ok∧cs=d.qd3:=by
 have hI:prog.cellsOf 3=1:=by kernel_rfl
 have hS:prog.cellsOf 22=1:=by kernel_rfl
 have hB:prog.cellsOf 4=1:=by kernel_rfl
 have hC:prog.cellsOf 24=3:=by kernel_rfl
 obtain⟨xs,k,-,-,hl,hlen,hg⟩:=DataW.trod_struct underlying24 h;rw[hC]at hl;match cs,hl with
 |[c0,c1,c2],_=>
  obtain⟨x0,q0⟩: ∃x0,xs[0]? =some x0:=⟨_,List.getElem?_eq_getElem (by rw[hlen];decide)⟩
  obtain⟨x1,q1⟩: ∃x0,xs[1]? =some x0:=⟨_,List.getElem?_eq_getElem (by rw[hlen];decide)⟩
  obtain⟨x2,q2⟩: ∃x0,xs[2]? =some x0:=⟨_,List.getElem?_eq_getElem (by rw[hlen];decide)⟩
  have g0:=(hg 0 _ rfl).trans q0;have g1:=(hg 1 _ rfl).trans q1;have g2:=(hg 2 _ rfl).trans q2;simp only[List.getElem_toArray,List.getElem_cons_zero,List.getElem_cons_succ,hI,hS,hB,List.drop_zero,List.take_succ_cons,List.take_zero,List.drop_succ_cons]at g0 g1 g2;obtain⟨a0,e0,-⟩:=DataW.trod_bool underlying4 g0;obtain⟨a1,e1,-,w1⟩:=DataW.trod_string underlying22 g1;obtain⟨a2,e2,-,w2⟩:=DataW.trod_int underlying3 g2;injection e0 with e0;injection e1 with e1;injection e2 with e2;subst e0 e1 e2;exact⟨⟨a0,a1,a2⟩,⟨w1,(bounds_i64 w2).1,(bounds_i64 w2).2⟩,rfl⟩
def GsD.qd3 (g:GsD):List Value:=(LC1 g.re.neg g.re.n g.re.e g.im.neg g.im.n g.im.e)
theorem qjW {fuel:Nat} {cs:List Value} {x:DataW H×List MemPlace} (h:DataW.trod enc prog w base spare held fuel 28 cs=some x): ∃g:GsD,(g.re.ok∧g.im.ok)∧cs=g.qd3:=by
 have hD:prog.cellsOf 24=3:=by kernel_rfl
 have hC:prog.cellsOf 28=6:=by kernel_rfl
 obtain⟨y0,y1,n,-,hl,h0,h1⟩:=trod_struct2 underlying28 h;rw[hC]at hl;simp only[hD]at h0 h1;match cs,hl with
 |[c0,c1,c2,c3,c4,c5],_=>
  simp only[List.drop_zero,List.take_succ_cons,List.take_zero,List.drop_succ_cons]at h0 h1;obtain⟨p,hp,ep⟩:=qdq h0;obtain⟨q,hq,eq⟩:=qdq h1;simp only[DyD.qd3,List.cons.injEq,and_true]at ep eq;obtain⟨rfl,rfl,rfl⟩:=ep;obtain⟨rfl,rfl,rfl⟩:=eq;exact⟨⟨p,q⟩,⟨hp,hq⟩,rfl⟩
def SqD.qd3 (s:SqD):List Value:=(LC3 s.left.neg s.left.n s.left.e s.low.neg s.low.n s.low.e s.e)
theorem qiN {fuel:Nat} {cs:List Value} {x:DataW H×List MemPlace} (h:DataW.trod enc prog w base spare held fuel 26 cs=some x): ∃s:SqD,s.ok∧cs=s.qd3:=by
 have hD:prog.cellsOf 24=3:=by kernel_rfl
 have hI:prog.cellsOf 3=1:=by kernel_rfl
 have hC:prog.cellsOf 26=7:=by kernel_rfl
 obtain⟨xs,k,-,-,hl,hlen,hg⟩:=DataW.trod_struct underlying26 h;rw[hC]at hl;match cs,hl with
 |[c0,c1,c2,c3,c4,c5,c6],_=>
  obtain⟨x0,q0⟩: ∃x0,xs[0]? =some x0:=⟨_,List.getElem?_eq_getElem (by rw[hlen];decide)⟩
  obtain⟨x1,q1⟩: ∃x0,xs[1]? =some x0:=⟨_,List.getElem?_eq_getElem (by rw[hlen];decide)⟩
  obtain⟨x2,q2⟩: ∃x0,xs[2]? =some x0:=⟨_,List.getElem?_eq_getElem (by rw[hlen];decide)⟩
  have g0:=(hg 0 _ rfl).trans q0;have g1:=(hg 1 _ rfl).trans q1;have g2:=(hg 2 _ rfl).trans q2;simp only[List.getElem_toArray,List.getElem_cons_zero,List.getElem_cons_succ,hI,hD,List.drop_zero,List.take_succ_cons,List.take_zero,List.drop_succ_cons]at g0 g1 g2;obtain⟨p,hp,ep⟩:=qdq g0;obtain⟨q,hq,eq⟩:=qdq g1;obtain⟨a2,e2,-,w2⟩:=DataW.trod_int underlying3 g2;simp only[DyD.qd3,List.cons.injEq,and_true]at ep eq;obtain⟨rfl,rfl,rfl⟩:=ep;obtain⟨rfl,rfl,rfl⟩:=eq;injection e2 with e2;subst e2;exact⟨⟨p,q,a2⟩,⟨hp,hq,(bounds_i64 w2).1,(bounds_i64 w2).2⟩,rfl⟩
theorem qll {fuel:Nat} {cs:List Value} {x:DataW H×List MemPlace} (h:DataW.trod enc prog w base spare held fuel 31 cs=some x): ∃u:RuD,u.ok∧cs=ruL u:=by
 have hD:prog.cellsOf 24=3:=by kernel_rfl
 have hI:prog.cellsOf 3=1:=by kernel_rfl
 have hG:prog.cellsOf 28=6:=by kernel_rfl
 have hF:prog.cellsOf 29=1:=by kernel_rfl
 have hC:prog.cellsOf 31=12:=by kernel_rfl
 obtain⟨xs,k,-,-,hl,hlen,hg⟩:=DataW.trod_struct underlying31 h;rw[hC]at hl;match cs,hl with
 |[c0,c1,c2,c3,c4,c5,c6,c7,c8,c9,c10,c11],_=>
  obtain⟨x0,q0⟩: ∃x0,xs[0]? =some x0:=⟨_,List.getElem?_eq_getElem (by rw[hlen];decide)⟩
  obtain⟨x1,q1⟩: ∃x0,xs[1]? =some x0:=⟨_,List.getElem?_eq_getElem (by rw[hlen];decide)⟩
  obtain⟨x2,q2⟩: ∃x0,xs[2]? =some x0:=⟨_,List.getElem?_eq_getElem (by rw[hlen];decide)⟩
  obtain⟨x3,q3⟩: ∃x0,xs[3]? =some x0:=⟨_,List.getElem?_eq_getElem (by rw[hlen];decide)⟩
  obtain⟨x4,q4⟩: ∃x0,xs[4]? =some x0:=⟨_,List.getElem?_eq_getElem (by rw[hlen];decide)⟩
  have g0:=(hg 0 _ rfl).trans q0;have g1:=(hg 1 _ rfl).trans q1;have g2:=(hg 2 _ rfl).trans q2;have g3:=(hg 3 _ rfl).trans q3;have g4:=(hg 4 _ rfl).trans q4;simp only[List.getElem_toArray,List.getElem_cons_zero,List.getElem_cons_succ,hI,hD,hG,hF,List.drop_zero,List.take_succ_cons,List.take_zero,List.drop_succ_cons]at g0 g1 g2 g3 g4;obtain⟨a0,e0,-,w0⟩:=DataW.trod_int underlying3 g0;obtain⟨p,hp,ep⟩:=qjW g1;obtain⟨q,hq,eq⟩:=qdq g2;obtain⟨a3,e3,w3⟩:=qfH underlying29 g3;obtain⟨a4,e4,w4⟩:=qfH underlying29 g4;simp only[GsD.qd3,DyD.qd3,List.cons.injEq,and_true]at ep eq;obtain⟨rfl,rfl,rfl,rfl,rfl,rfl⟩:=ep;obtain⟨rfl,rfl,rfl⟩:=eq;injection e0 with e0;injection e3 with e3;injection e4 with e4;subst e0 e3 e4;exact⟨⟨a0,p,q,a3,a4⟩,⟨(bounds_i64 w0).1,(bounds_i64 w0).2,hp.1,hp.2,hq,w3,w4⟩,rfl⟩
end
theorem qmV {P:Program} {W:World} {H:Type} {enc:TypeId×Value→H} {t e:TypeId} {n base fuel:Nat} {spare:Nat→Bool} {held:Bool} {cs:List Value} {p:List MemPlace} {ks:List Nat} (ht:P.underlying t=some (.array n e)) (he:P.underlying e=some (.int .u8)) (hce:P.cellsOf e=1)
  (h:DataW.trod enc P W base spare held fuel t cs=some (.agg (ks.map fun k:Nat=>.lit (.int .u8 (k:Int))),p)): ∀(i k:Nat),ks[i]? =some k→cs[i]? =some (Value.int .u8 (k:Int)):=by
 obtain⟨xs,m,rfl,hx,hlen,hn,hel⟩:=DataW.trod_array ht h;simp only[Prod.mk.injEq,DataW.agg.injEq]at hx
 have hk:ks.length=n:=by
  have:=congrArg List.length hx.1;simpa [hn] using this
 intro i k hik;have hi:=(List.getElem?_eq_some_iff.1 hik).1;have h1:=hel i (by omega);rw[hce,Nat.mul_one]at h1;have hix:i<xs.length:=by omega
 have hxi:xs[i]? =some xs[i]:=List.getElem?_eq_getElem hix;rw[hxi]at h1;obtain⟨z,e1,e2,-⟩:=DataW.trod_int he h1
 have e3:cs[i]? =some (.int .u8 z):=by
  have:=congrArg (fun l=>l[0]?) e1;simpa [List.getElem?_take,List.getElem?_drop] using this
 have e4:=congrArg (fun l=>l[i]?) hx.1;simp only[List.getElem?_map,hxi,hik,Option.map_some,e2]at e4;injection e4 with e4;injection e4 with e4;injection e4 with e4 e5;rw[e3,e5]
theorem qpN {W : World} (h : laidMetH prog [("math/bits.deBruijn32tab", Rows.laid_math_bits_deBruijn32tab)] W) : T32 W := by
 unfold laidMetH at h
 rw [show ([("math/bits.deBruijn32tab", Rows.laid_math_bits_deBruijn32tab)].filter fun x : String × DataW Unit => x.2.handleName?.isSome) = [] from by kernel_rfl] at h;obtain⟨ps,⟨g',t',cs,fuel,p,q,hg',ht',hv,htr,hrest,rfl⟩,-,-⟩:=h
 have hgn : prog.globalNamed "math/bits.deBruijn32tab" = some 1 := by kernel_rfl
 obtain rfl:=Option.some.inj (hgn.symm.trans hg');have htt:(prog.globals[1]?).map (·.type)=some 262:=by kernel_rfl
 obtain rfl:=Option.some.inj (htt.symm.trans ht');rw[show(Rows.laid_math_bits_deBruijn32tab:DataW Unit)=.agg (t32.map fun k:Nat=>.lit (.int .u8 (k:Int)))from by kernel_rfl]at htr;have hcs:=qmV (n:=32) (e:=5) (by kernel_rfl) (by kernel_rfl) (by kernel_rfl) htr;have hcell:=World.var?_cell hg' hv;intro k hk
 have hkt:t32[k]? =some (t32.getD k 0):=by
  have hl:t32.length=32:=by decide
  rw[List.getElem?_eq_getElem (by omega)];simp[List.getD,List.getElem?_eq_getElem (show k<t32.length by omega)]
 refine(hcell k).trans ?_;have h2:=hcs k _ hkt;simpa using h2
end
section
open Go
set_option maxRecDepth 100000
theorem RefineReads.wf0 :Rows.refineReadsRow.wf (OpenSpec.ofChange Rows.refineReadsSpec)=true:=by kernel_rfl
theorem RefineReads.lay :laidOutB Tryz.pinned.checked.prog=true:=by kernel_rfl
theorem RefineReads.map :mapsRowed Tryz.pinned.checked.prog=true:=by kernel_rfl
theorem RefineReads.tie :namedTie Tryz.pinned.checked.prog Rows.refineReadsRow.named Rows.refineReadsSpec.vars=true:=by kernel_rfl
theorem RefineReads.inp :(Rows.refineReadsRow.inPlace==Tryz.pinned.checked.prog.inPlace 4)=true:=by kernel_rfl
theorem RefineReads.unf :(Rows.refineReadsRow.unfollowed==Tryz.pinned.checked.prog.unfollowed 4)=true:=by kernel_rfl
theorem RefineReads.rec :(Rows.refineReadsRow.recurses==Tryz.pinned.checked.prog.recurses 4)=true:=by kernel_rfl
theorem RefineReads.nam :(Rows.refineReadsRow.named==Tryz.pinned.checked.prog.varsNamed 4)=true:=by kernel_rfl
theorem RefineReads.pk :(Rows.refineReadsRow.plainKeys==Tryz.pinned.checked.prog.plainKeys)=true:=by kernel_rfl
theorem RefineReads.sh :Tryz.pinned.checked.prog.stopsHeard=true:=by kernel_rfl
theorem RefineReads.me :Tryz.pinned.checked.prog.mayEnter=true:=by kernel_rfl
theorem RefineReads.li :(Rows.refineReadsRow.lifted==Tryz.pinned.checked.prog.liftsFinal)=true:=by kernel_rfl
theorem RefineReads.mk :(Tryz.pinned.checked.prog.make==some Rows.refineReadsRow.make)=true:=by kernel_rfl
theorem RefineReads.facts :joinedFacts Tryz.pinned.checked.prog 4 f4 Rows.refineReadsSpec Rows.refineReadsRow=true:=by
 unfold joinedFacts;rw[RefineReads.wf0,RefineReads.lay,RefineReads.map,RefineReads.tie,RefineReads.inp,RefineReads.unf,RefineReads.rec,RefineReads.nam,RefineReads.pk,RefineReads.sh,RefineReads.me,RefineReads.li,RefineReads.mk];kernel_rfl
theorem RefineReads.wf :Rows.refineReadsRow.wfByText (OpenSpec.ofChange Rows.refineReadsSpec)=true:=by kernel_rfl
theorem RefineReads.goes :false=Rows.refineReadsRow.goesBy Tryz.pinned.checked.prog:=by kernel_rfl
theorem RefineReads.named :Tryz.pinned.checked.prog.funcNamed Rows.refineReadsRow.func=some 4:=by kernel_rfl
end
section
open Go
set_option maxRecDepth 100000
theorem qkB :Tryz.pinned.checked.prog.looks []=false:=by kernel_rfl
theorem qna :Tryz.pinned.checked.prog.mainIs=some (Rows.refineOrderCard.stood.harness.1,Rows.refineOrderCard.stood.harness.2.toList):=by kernel_rfl
theorem qes :laidOutB prog=true:=by kernel_rfl
theorem qoc :ownKnob prog.godebug=none:=by kernel_rfl
end
end Go.Proofs.YtfdnledkcongaaaGreatDoor
