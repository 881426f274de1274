/- Texts of one claim laid together: LkA, RfH, RfI, GroW, RdP, Lab, RdQ, ReX, ReY. -/
import Derived.Test.YtfdnledkcongaaaGreatDoorQ13
import Derived.BigQuiet
import Derived.ScopeJumps
import Derived.WalkMore
set_option linter.all false
namespace Go.Proofs.YtfdnledkcongaaaGreatDoor
open Go.RowKit Go.Proofs.Tryz
section
attribute [local go_sem] Oper.semAt_some
set_option maxRecDepth 100000 in
set_option maxHeartbeats 6400000 in
theorem qh8 (w:World):Calls prog 17 #[.pointer none,.pointer none,.int .i64 0] w fun en w'=>en=.returned (.bool true)∧Kept w w':=by
 refine callsIn_wide.1 (callsIn_of_wp_marks (n:=5) func17 rfl trivial ?_ rfl);simp only[ntmps17,List.size_toArray,List.length_cons,List.length_nil,Nat.reduceAdd,Nat.reduceSub,Array.replicate_succ,Array.replicate_zero,List.push_toArray,List.append_toArray,List.nil_append,List.cons_append];refine wpIn_wide.2 ?_;refine wp_mono (Q:=qfc _) ?_ qdn;go_upto_region 1 with fail
 obtain⟨b,w1,hw,hb,B0,B1,B2,K1,HB⟩:=qcj w [.pointer none] 53 [.int .i64 0] 3 [.bool false] 4;rw[←hw,←hb];clear hw hb;have b0:=B0.out.c 0 rfl;go_upto_region 3 with (go_at_call 44;(with_reducible refine(qkX _).mono ?_);rintro e w2 ⟨rfl,hk2⟩;have J2:=qh hk2;clear hk2)
 clear b0;refine wp_region_list ?_;refine wpList_plain rfl fun K hK=>?_;go_step;refine hK _ _ ?_;clear hK K;refine wpList_plain rfl fun K hK=>?_;go_step;refine(qme _).mono ?_;rintro e w3 ⟨rfl,hk3⟩;have J3:=qh (J2.out.trans' hk3);clear hk3 J2
 iterate 5
  refine hK _ _ ?_;clear hK K;refine wpList_plain rfl fun K hK=>?_;go_step
 refine hK _ _ ?_;clear hK K;refine wpList_plain rfl fun K hK=>?_;go_step;refine hK _ _ ?_;clear hK K;have J3x0:=qh (Kept.new J3.out (.cells (LC0 false ⟨#[]⟩ 0).toArray 24));have Bx0:=qh (Bx.new w3 (LC0 false ⟨#[]⟩ 0) 24 w3.heap.size rfl);obtain⟨x0,hx0⟩: ∃x,x=w3.heap.size:=⟨_,rfl⟩
 have Hx0:=qh (show w1.heap.size≤x0 by have:=J3.out.size;omega);rw[←hx0]at Bx0⊢;clear hx0;generalize World.alloc w3 _=w3_0 at *;refine wpList_plain rfl fun K hK=>?_;go_step;refine hK _ _ ?_;clear hK K;have J3x1:=qh (Kept.new J3x0.out (.cells (LC0 false ⟨#[]⟩ 0).toArray 24));have Bx1:=qh (Bx.new w3_0 (LC0 false ⟨#[]⟩ 0) 24 w3_0.heap.size rfl);have Lx0x1:=qh (show x0<w3_0.heap.size from Bx0.out.lt);replace Bx0:=qh (Bx0.out.kept (Kept.new (Below.refl _ _) (.cells (LC0 false ⟨#[]⟩ 0).toArray 24)));obtain⟨x1,hx1⟩: ∃x,x=w3_0.heap.size:=⟨_,rfl⟩
 have Hx1:=qh (show w1.heap.size≤x1 by have:=J3x0.out.size;omega);have Nx0x1:=qh (show x0≠x1 by have:=Lx0x1.out;omega);rw[←hx1]at Bx1⊢;clear hx1;generalize World.alloc w3_0 _=w3_1 at *;refine wpList_plain rfl fun K hK=>?_;go_step;refine hK _ _ ?_;clear hK K;have J3x2:=qh (Kept.new J3x1.out (.cells (LC0 false ⟨#[]⟩ 0).toArray 24));have Bx2:=qh (Bx.new w3_1 (LC0 false ⟨#[]⟩ 0) 24 w3_1.heap.size rfl);have Lx0x2:=qh (show x0<w3_1.heap.size from Bx0.out.lt);replace Bx0:=qh (Bx0.out.kept (Kept.new (Below.refl _ _) (.cells (LC0 false ⟨#[]⟩ 0).toArray 24)));have Lx1x2:=qh (show x1<w3_1.heap.size from Bx1.out.lt);replace Bx1:=qh (Bx1.out.kept (Kept.new (Below.refl _ _) (.cells (LC0 false ⟨#[]⟩ 0).toArray 24)));obtain⟨x2,hx2⟩: ∃x,x=w3_1.heap.size:=⟨_,rfl⟩
 have Hx2:=qh (show w1.heap.size≤x2 by have:=J3x1.out.size;omega);have Nx0x2:=qh (show x0≠x2 by have:=Lx0x2.out;omega);have Nx1x2:=qh (show x1≠x2 by have:=Lx1x2.out;omega);rw[←hx2]at Bx2⊢;clear hx2;generalize World.alloc w3_1 _=w3_2 at *;refine wpList_plain rfl fun K hK=>qaa (vs:=(LC0 false ⟨#[]⟩ 0)) (b:=x0) (n:=3) _ _ rfl rfl rfl Bx0.out rfl rfl (by kernel_rfl) rfl (hK _ _ ?_);clear hK K;replace Bx0:=qh (Bx0.out.row (LC0 false ⟨#[]⟩ 0));replace Bx1:=qh (Bx1.out.off (g:=x0) Nx0x1.out.symm (LC0 false ⟨#[]⟩ 0));replace Bx2:=qh (Bx2.out.off (g:=x0) Nx0x2.out.symm (LC0 false ⟨#[]⟩ 0));replace J3x2:=qh (Kept.row J3x2.out Hx0.out (LC0 false ⟨#[]⟩ 0));generalize World.setRow w3_2 _ _=w3_2s0 at *;refine wpList_plain rfl fun K hK=>qaa (vs:=(LC0 false ⟨#[]⟩ 0)) (b:=x1) (n:=3) _ _ rfl rfl rfl Bx1.out rfl rfl (by kernel_rfl) rfl (hK _ _ ?_);clear hK K;replace Bx1:=qh (Bx1.out.row (LC0 false ⟨#[]⟩ 0));replace Bx0:=qh (Bx0.out.off (g:=x1) Nx0x1.out (LC0 false ⟨#[]⟩ 0));replace Bx2:=qh (Bx2.out.off (g:=x1) Nx1x2.out.symm (LC0 false ⟨#[]⟩ 0));replace J3x2:=qh (Kept.row J3x2.out Hx1.out (LC0 false ⟨#[]⟩ 0));generalize World.setRow w3_2s0 _ _=w3_2s1 at *;refine wpList_plain rfl fun K hK=>qaa (vs:=(LC0 false ⟨#[]⟩ 0)) (b:=x2) (n:=3) _ _ rfl rfl rfl Bx2.out rfl rfl (by kernel_rfl) rfl (hK _ _ ?_);clear hK K;replace Bx2:=qh (Bx2.out.row (LC0 false ⟨#[]⟩ 0));replace Bx0:=qh (Bx0.out.off (g:=x2) Nx0x2.out (LC0 false ⟨#[]⟩ 0));replace Bx1:=qh (Bx1.out.off (g:=x2) Nx1x2.out (LC0 false ⟨#[]⟩ 0));replace J3x2:=qh (Kept.row J3x2.out Hx2.out (LC0 false ⟨#[]⟩ 0));generalize World.setRow w3_2s1 _ _=w3_2s2 at *;have J4:=J3x2;go_wp2_with (go_at_call 21;(with_reducible refine(qln _).mono ?_);rintro e w7 ⟨Bc,rfl,hk7,hBc,hbx⟩;have J7:=qh (J4.out.trans' hk7);have HBX:=qh hbx;clear hk7 hbx hBc;have hf1: ∀W,(binOp .eql 62 (.func (.func 52) #[] #[.pointer (some ⟨Bc,0,none⟩)]) .nilFunc).run prog W=.ok (.bool false) W:=fun W=>by kernel_rfl)
 have HWS:=qh (show w.heap.size≤w7.heap.size from(K1.out.trans' J7.out).size)
 refine(wpIn_wide (n:=5)).1 (qbr (α:=Nat) rfl (by decide) (gf:=52) (lb:=#[.pointer (some ⟨Bc,0,none⟩)]) rfl trivial (enters_of func52 (by kernel_rfl) rfl)
  (qgE 4 (by omega) HBX.out (encs:=fun _=>#[.bool false,.bool false]) (B0:=w7.heap.size) (U:=fun _ _=>False) ⟨fun _ _ _ _ _ _ _ h=>h,fun _ _ _ _ _ _ _ _ h=>h⟩)
  ⟨fun _ _ _ _ _ _ _ h=>h,fun _ _ _ _ _ _ _ _ h=>h⟩ (Below.refl _ _) (fun _=>rfl)
  (fun _ W=>Kept w7 W) (fun _ _ _=>False) (fun s A B row h hg hr=>h.grown hg h.size (fun r e=>(hr r e).1)) (fun _ s A B row h _ _=>h.elim) (fun s A B row h hg hr=>h.grown hg h.size (fun r e=>(hr r e).1)) (fun _ s A B row h _ _=>h.elim) (fun _ _ _ _ h=>h.elim)
  (Below.refl _ _) (fun _ _ _=>True) (fun x a' s A B row h _ _=>h) (fun _ _ _ _ _ _ h=>h.elim) (fun _ _ _ _ _ _ _ _ _ h=>absurd h (Nat.not_lt_zero _)) ?done (fun D c pre W _ _ h _=>h.elim))
 case done=>
  rintro D xs W hD rfl hkw hDef;dsimp only;have HKW:=qh hkw;have HDD:=qh hDef;have HDL:=qh hD;have J8:=qh (J7.out.trans' hkw);have hz: ∀W,(binOp .eql 26 (.agg ZL4.toArray) (.agg ZL4.toArray)).run prog W=.ok (.bool true) W:=fun W=>by kernel_rfl
  clear hkw hDef hD hf1;go_upto_region 6 with fail
  refine wp_region_list ?_;refine wpList_plain rfl fun K hK=>?_;go_step;refine hK _ _ ?_;clear hK K;refine wpList_plain rfl fun K hK=>?_;go_step;refine(qkD _).mono ?_;rintro e w9 ⟨rfl,hk9⟩;have KWZ:=qh hk9;have J9:=qh (J8.out.trans' hk9);clear hk9;refine hK _ _ ?_;clear hK K;have rc0:=(B2.out.kept J9.out).c 0 rfl;have rf0:=(B2.out.kept J9.out).f 0;refine wpList_plain rfl fun K hK=>qas ZL4 _ _ rfl (by kernel_rfl) (hK _ _ ?_);clear hK K;have HKE:=qh ((K1.out.trans' J9.out).setCell (p:=⟨b+2,0,none⟩) (by have:=HB.out;show w.heap.size≤b+2;omega) (.bool true));have HDF:Hid (Defs w7.heap.size (World.setCell w9 ⟨b+2,0,none⟩ (.bool true)) [{target:=.collected D,args:=#[]}]):=qh ((show Defs w7.heap.size W [{target:=.collected D,args:=#[]}]from⟨D,rfl,HDL.out,HDD.out,by simp,trivial⟩).keeps (fun k o h hc=>(KeepsOthers.setCell w9 _ _).same k o ((KWZ.out.block k (Array.getElem?_eq_some_iff.1 h).1).trans h) hc));have HSZ:=qh (show w7.heap.size≤(World.setCell w9 ⟨b+2,0,none⟩ (.bool true)).heap.size by have h1:=HKW.out.size;have h2:=KWZ.out.size;simp[World.setCell];omega);go_wp2_with (first|(go_at_call 37;(with_reducible refine(qmC _).mono ?_);rintro e wx ⟨rfl,h3⟩;replace h3:=h3.symm;subst h3)|(go_at_call 13;(with_reducible refine(qmo _).mono ?_);rintro e wx ⟨rfl,h3⟩;replace h3:=h3.symm;subst h3))
  show LeavesInM _ _ _ _ _ _ _ _ _;exact qhl (w:=w) (lo:=w7.heap.size) (x:=.bool true) (b:=b+2) _ HDF.out (World.cell?_setCell_same _ _ _ rc0) HKE.out HWS.out (fun W2 h=>by simp[results,f17,go_sem,h]) (fun W2 h=>⟨rfl,h⟩) HSZ.out
end
set_option maxRecDepth 100000 in
set_option maxHeartbeats 6400000 in
theorem qjZ {w:World} {base p:Nat} {v:Value} {u:RuD} {L:List NdR} (hM:RfM w base p v u L) (hS:qck L):
  Calls prog 47 #[.pointer (some ⟨p,0,none⟩)] w fun en w'=>en=.returned (.tuple #[.int .i64 (qbK (stR L) (qak (stR L)) 1:Nat),.int .i64 (qbK (stR L) (qak (stR L)) 2:Nat),.int .i64 (qbK (stR L) (qak (stR L)) 0:Nat)])∧Kept w w':=by
 obtain⟨gt,ot,ct,hv,-,hgt,hgp,hcell,-⟩:=hM.form hS.pos;have LV:=qh (fun W hk=>qeU (w:=W) (hM.kept hk) hS);have hbox:=hM.box;have HLEN:=qh hS.len;have HPL:=qh (qbD hS.whole);have HFL:=qh (qc hS.whole);have HND:=qh hS.good.nd;obtain⟨F,hF⟩: ∃F,F=qak (stR L):=⟨_,rfl⟩
 rw[←hF]at LV HPL HFL⊢;have HPOS:Hid (F.length≤87381):=qh (by have h1:=HFL.out;have h2:=HLEN.out;simp only[stR,List.length_map]at h1;omega);have hpl:=hbox.lt;have HGT:=qh (And.intro hgt hpl);have hlt: ∀(k:Nat) (n:NdR),L[k]? =some n→(k:Int)<(L.length:Int):=fun k n h=>by have:=(List.getElem?_eq_some_iff.1 h).1;omega
 have HLT:=qh hlt;rw[hv]at hbox;have HBX:=qh hbox;have HCL:=qh hcell;obtain⟨LN,hLN⟩: ∃LN,LN=L.length:=⟨_,rfl⟩
 rw[←hLN]at HBX HLT;clear hM hS hF hcell hgt hpl hlt hbox hLN hgp;go_enter func47,ntmps47
 go_upto_region 2 with fail
 have BA:=qh (Bx.new w [.int .i64 0,.int .i64 0,.int .i64 0] 164 w.heap.size rfl);have K1:=qh (Kept.new (Below.refl _ w) (.cells #[.int .i64 0,.int .i64 0,.int .i64 0] 164));obtain⟨b,hb⟩: ∃b,b=w.heap.size:=⟨_,rfl⟩
 have HB:=qh (show w.heap.size≤b by omega);have HBB:=qh (show∀k,k<w.heap.size→k≠b by intro k hk;omega);rw[←hb]at BA⊢;clear hb;generalize w.alloc _=w1 at *;go_upto_region 3 with (go_at_call 50;(with_reducible refine(LV.out _ K1.out).mono ?_);rintro e w2 ⟨x,rfl,hO,hk2⟩;have HO:=qh hO;have HK2:=qh hk2;clear hO hk2)
 obtain⟨A,c,rfl,hnc,hcm,-,-,-⟩:=HO.out.form;have hpos:=HPOS.out;obtain⟨FN,hFN⟩: ∃FN,FN=F.length:=⟨_,rfl⟩
 rw[←hFN]at HO hnc hpos⊢;have HFN:=qh hFN;have HK:=qh (K1.out.trans' HK2.out);have BA2:=qh (BA.out.kept HK2.out);have HB1:=qh (show b<w1.heap.size from BA.out.lt);clear hFN BA LV;go_wp2_with fail
 go_loopg [7] FN (fun gh v7 wr=> ∃j:Nat,j+gh=FN∧v7=.int .i64 (j:Int)∧Bx wr b (qfA (stR L) (F.take j))∧Own wr w1.heap.size 1 (.slice A FN c) FN (qay F)∧Kept w wr)
 case atStart=>exact⟨0,by omega,rfl,BA2.out,HO.out,HK.out⟩
 case round=>
  clear BA2 HO HK;obtain⟨j,hjg,rfl,hB,hO,hk⟩:=hrel;have HBA:=qh hB;have HO:=qh hO;have HK:=qh hk;clear hB hO hk;cases gk with
  |zero=>
   obtain rfl:j=FN:=by omega
   have hb:=HBA.out;rw[HFN.out,List.take_length]at hb;unfold qfA at hb;have y0:=hb.c 0 rfl;have y1:=hb.c 1 rfl;have y2:=hb.c 2 rfl;clear hb;go_upto_region 7 with fail
   go_quiet (fail)
   go_wp2_with fail
   exact bodyPost_ret (v:=.tuple #[.int .i64 (qbK (stR L) F 1:Nat),.int .i64 (qbK (stR L) F 2:Nat),.int .i64 (qbK (stR L) F 0:Nat)]) (by simp[results,results47,go_sem]) rfl ⟨rfl,⟨HK.out.os,HK.out.tape,HK.out.output,HK.out.size,HK.out.block⟩⟩
  |succ gj=>
   have hjF:j<F.length:=by have:=HFN.out;omega
   obtain⟨k,hk⟩: ∃k,F[j]? =some k:=⟨_,List.getElem?_eq_getElem hjF⟩
   have hkm:k∈F:=List.mem_of_getElem? hk;have hkl:=HPL.out k hkm;obtain⟨n,hn⟩: ∃n,L[k]? =some n:=⟨_,List.getElem?_eq_getElem (by simpa [stR] using hkl)⟩
   have htk:F.take (j+1)=F.take j++[k]:=by rw[List.take_add_one,hk];rfl
   have htd:=(HND.out _ _ (qdN hn)).told;have hnx: ∀t,qbK (stR L) (F.take j++[k]) t=qbK (stR L) (F.take j) t+if n.told=t then 1 else 0:=fun t=>qig (qdN hn) (l:=F.take j) t
   rcases HO.out.2 with ⟨-,h0⟩|⟨g,off,cap,hv,hbg,hgl,hnc2,hcm2,hx,hc⟩
   ·omega
   cases hv;have hx1:=hx j (.int .i64 (k:Int)) (by simp[qay,hk]);have p1:=(HBX.out.kept HK.out).c 12 rfl;have tc:=(HK.out.cells gt (ot+k*14+8) HGT.out.1).trans (show w.cell? ⟨gt,ot+k*14+8,none⟩=some (.int .u8 (n.told:Int)) by rw[Nat.add_assoc];exact HCL.out k n 8 _ hn rfl);have hk0:(0:Int)≤(k:Int):=by omega
   have hkL:=HLT.out k n hn;have hj0:(0:Int)≤(j:Int):=by omega
   have hjN:(j:Int)<(FN:Int):=by omega
   have hb:=HBA.out;unfold qfA at hb;have hc0:=qe3 (stR L) (F.take j) 0;have hc1:=qe3 (stR L) (F.take j) 1;have hc2:=qe3 (stR L) (F.take j) 2;rw[List.length_take]at hc0 hc1 hc2;obtain⟨x0,hx0⟩: ∃x,x=qbK (stR L) (F.take j) 0:=⟨_,rfl⟩
   obtain⟨x1,hx1'⟩: ∃x,x=qbK (stR L) (F.take j) 1:=⟨_,rfl⟩
   obtain⟨x2,hx2⟩: ∃x,x=qbK (stR L) (F.take j) 2:=⟨_,rfl⟩
   rw[←hx0]at hb hc0;rw[←hx1']at hb hc1;rw[←hx2]at hb hc2;have HX:Hid (qbK (stR L) (F.take j) 0=x0∧qbK (stR L) (F.take j) 1=x1∧qbK (stR L) (F.take j) 2=x2):=qh ⟨hx0.symm,hx1'.symm,hx2.symm⟩;have e0:IntKind.i64.wrap ((x0:Int)+1)=((x0+1:Nat):Int):=by rw[IntWalk.i64_in _ (by omega)];omega
   have e1:IntKind.i64.wrap ((x1:Int)+1)=((x1+1:Nat):Int):=by rw[IntWalk.i64_in _ (by omega)];omega
   have e2:IntKind.i64.wrap ((x2:Int)+1)=((x2+1:Nat):Int):=by rw[IntWalk.i64_in _ (by omega)];omega
   have ewj:IntKind.i64.wrap ((j:Int)+1)=((j+1:Nat):Int):=by rw[IntWalk.i64_in _ (by omega)];omega
   have y0:=hb.c 0 rfl;have y1:=hb.c 1 rfl;have y2:=hb.c 2 rfl;have f0:=hb.f 0;have f1:=hb.f 1;have f2:=hb.f 2;have HBW:=qh hb;obtain⟨td,htde⟩: ∃td,td=n.told:=⟨_,rfl⟩
   have HTK:=qh htk;have HNX:=qh hnx;have HTD:=qh htde;change n.told≤2 at htd;rw[←htde]at tc htd
   have HCV:Hid (qfA (stR L) (F.take (j+1))=[.int .i64 ((x0+if td=0 then 1 else 0:Nat)),.int .i64 ((x1+if td=1 then 1 else 0:Nat)),.int .i64 ((x2+if td=2 then 1 else 0:Nat))]):=by
    refine qh ?_;unfold qfA;rw[HTK.out,hnx 0,hnx 1,hnx 2,HX.out.1,HX.out.2.1,HX.out.2.2,←htde]
   clear hk hkm hkl hn htk hnx hx hc hb hx0 hx1' hx2 htde hjF HBA;have ht3:td=0∨td=1∨td=2:=by omega
   rcases ht3 with rfl|rfl|rfl
   ·have hcv:=HCV.out
    simp only[reduceIte,Nat.add_zero,show¬(0:Nat)=1 by decide,show¬(0:Nat)=2 by decide]at hcv;have HCW:=qh hcv;clear hcv HCV;go_upto_region 6 with fail
    go_region_with (fail)
    all_goals
     have HB2:=qh ((HBW.out.set 0 (.int .i64 ((x0:Int)+1)) (by simp)).kept (Below.refl _ _).drew);have HO2:=qh ((HO.out.far (p:=⟨b,0,none⟩) (fun i hi=>by cases hi;show g≠b;have:=HB1.out;omega) (.int .i64 ((x0:Int)+1))).drew);have HK2':=qh ((HK.out.set HB.out 0 (.int .i64 ((x0:Int)+1))).drew);clear y0 y1 y2 f0 f1 f2 hx1 p1 tc;generalize(wr.setCell _ _).drew=wn at *;go_wp2_with fail
     go_roundg gj
     case measure=>omega
     case rel=>exact⟨j+1,by omega,by go_num,by rw[HCW.out];exact HB2.out,HO2.out,HK2'.out⟩
   ·have hcv:=HCV.out
    simp only[reduceIte,Nat.add_zero,show¬(1:Nat)=0 by decide,show¬(1:Nat)=2 by decide]at hcv;have HCW:=qh hcv;clear hcv HCV;go_upto_region 6 with fail
    go_region_with (fail)
    all_goals
     have HB2:=qh ((HBW.out.set 1 (.int .i64 ((x1:Int)+1)) (by simp)).kept (Below.refl _ _).drew);have HO2:=qh ((HO.out.far (p:=⟨b,1,none⟩) (fun i hi=>by cases hi;show g≠b;have:=HB1.out;omega) (.int .i64 ((x1:Int)+1))).drew);have HK2':=qh ((HK.out.set HB.out 1 (.int .i64 ((x1:Int)+1))).drew);clear y0 y1 y2 f0 f1 f2 hx1 p1 tc;generalize(wr.setCell _ _).drew=wn at *;go_wp2_with fail
     go_roundg gj
     case measure=>omega
     case rel=>exact⟨j+1,by omega,by go_num,by rw[HCW.out];exact HB2.out,HO2.out,HK2'.out⟩
   ·have hcv:=HCV.out
    simp only[reduceIte,Nat.add_zero,show¬(2:Nat)=0 by decide,show¬(2:Nat)=1 by decide]at hcv;have HCW:=qh hcv;clear hcv HCV;go_upto_region 6 with fail
    go_region_with (fail)
    all_goals
     have HB2:=qh ((HBW.out.set 2 (.int .i64 ((x2:Int)+1)) (by simp)).kept (Below.refl _ _).drew);have HO2:=qh ((HO.out.far (p:=⟨b,2,none⟩) (fun i hi=>by cases hi;show g≠b;have:=HB1.out;omega) (.int .i64 ((x2:Int)+1))).drew);have HK2':=qh ((HK.out.set HB.out 2 (.int .i64 ((x2:Int)+1))).drew);clear y0 y1 y2 f0 f1 f2 hx1 p1 tc;generalize(wr.setCell _ _).drew=wn at *;go_wp2_with fail
     go_roundg gj
     case measure=>omega
     case rel=>exact⟨j+1,by omega,by go_num,by rw[HCW.out];exact HB2.out,HO2.out,HK2'.out⟩
section
set_option maxHeartbeats 6400000
set_option maxRecDepth 100000
def qdc (B:List UInt8) (w:World) (en:Ending) (w':World):Prop:= ∃b:ByteArray,en=.returned (.string b)∧b.data.toList=B∧Kept w w'
theorem qk6 {w:World} {base p:Nat} {v:Value} {u:RuD} {L:List NdR} {k:Nat} {n:NdR} (hM:RfM w base p v u L) (hk:L[k]? =some n) (hn:n.par=false) (ht:n.told≤2):
  Calls prog 60 #[.pointer (some ⟨p,0,none⟩),.int .i64 (k:Int)] w (qdc [TrT.qfC n.told] w):=by
 have hl:=(List.getElem?_eq_some_iff.1 hk).1;obtain⟨gt,ot,ct,rfl,-,hgt,-,hcell,-⟩:=hM.form (by omega);have p1:=hM.box.c 12 rfl;have hc9:w.cell? ⟨gt,ot+k*14+9,none⟩=some (.bool false):=by rw[Nat.add_assoc,←hn];exact hcell k n 9 _ hk rfl
 have hc8:w.cell? ⟨gt,ot+k*14+8,none⟩=some (.int .u8 (n.told:Int)):=by rw[Nat.add_assoc];exact hcell k n 8 _ hk rfl
 have hkl:(k:Int)<((L.length:Nat):Int):=by omega
 have hk0:(0:Int)≤(k:Int):=by omega
 generalize L.length=LN at *;generalize n.told=td at *;clear hM hk hn hl hcell;have ht3:td=0∨td=1∨td=2:=by omega
 have hx0: ∀W,(Instr.index 177 (.agg #[.string ⟨#[117]⟩,.string ⟨#[105]⟩,.string ⟨#[111]⟩]) (.int .u8 0)).run prog W=.ok (.string ⟨#[117]⟩) W:=fun W=>by kernel_rfl
 have hx1: ∀W,(Instr.index 177 (.agg #[.string ⟨#[117]⟩,.string ⟨#[105]⟩,.string ⟨#[111]⟩]) (.int .u8 1)).run prog W=.ok (.string ⟨#[105]⟩) W:=fun W=>by kernel_rfl
 have hx2: ∀W,(Instr.index 177 (.agg #[.string ⟨#[117]⟩,.string ⟨#[105]⟩,.string ⟨#[111]⟩]) (.int .u8 2)).run prog W=.ok (.string ⟨#[111]⟩) W:=fun W=>by kernel_rfl
 rcases ht3 with rfl|rfl|rfl<;>
 ·go_enter func60,ntmps60
  go_wp2_with fail
  go_ret
  exact⟨_,rfl,rfl,Below.refl _ _⟩
theorem qkv {w:World} {base p:Nat} {v:Value} {u:RuD} {L:List NdR} {k:Nat} {n:NdR} (hM:RfM w base p v u L) (hk:L[k]? =some n) (hn:n.par=true) {F0 F1 F2 F3:List UInt8} (hF:F0.length+F1.length+F2.length+F3.length≤87381)
  (i0: ∀W,Kept w W→Calls prog 60 #[.pointer (some ⟨p,0,none⟩),.int .i64 (n.k0:Int)] W (qdc F0 W))
  (i1: ∀W,Kept w W→Calls prog 60 #[.pointer (some ⟨p,0,none⟩),.int .i64 (n.k1:Int)] W (qdc F1 W))
  (i2: ∀W,Kept w W→Calls prog 60 #[.pointer (some ⟨p,0,none⟩),.int .i64 (n.k2:Int)] W (qdc F2 W))
  (i3: ∀W,Kept w W→Calls prog 60 #[.pointer (some ⟨p,0,none⟩),.int .i64 (n.k3:Int)] W (qdc F3 W)):
  Calls prog 60 #[.pointer (some ⟨p,0,none⟩),.int .i64 (k:Int)] w (qdc (112::(F0++(F1++(F2++F3)))) w):=by
 have hl:=(List.getElem?_eq_some_iff.1 hk).1;obtain⟨gt,ot,ct,rfl,-,hgt,-,hcell,-⟩:=hM.form (by omega);have HBX:=qh hM.box;have hc9:w.cell? ⟨gt,ot+k*14+9,none⟩=some (.bool true):=by rw[Nat.add_assoc,←hn];exact hcell k n 9 _ hk rfl
 have hkl:(k:Int)<((L.length:Nat):Int):=by omega
 have hk0:(0:Int)≤(k:Int):=by omega
 have HKD:Hid (∀j:Nat,j<4→∃(x:Nat) (F:List UInt8),(∀W,Kept w W→W.cell? ⟨gt,ot+k*14+10+j,none⟩=some (.int .i64 (x:Int)))∧([F0,F1,F2,F3].take (j+1)).flatten=([F0,F1,F2,F3].take j).flatten++F∧((([F0,F1,F2,F3].take j).flatten++F).length≤87381)∧
   ∀W,Kept w W→Calls prog 60 #[.pointer (some ⟨p,0,none⟩),.int .i64 (x:Int)] W (qdc F W)):=by
  have hc: ∀(i:Nat) (x:Value),(rdV n)[10+i]? =some x→∀W,Kept w W→W.cell? ⟨gt,ot+k*14+10+i,none⟩=some x:=fun i x hx W hW=>by
   rw[Nat.add_assoc,Nat.add_assoc];exact(hW.cells _ _ hgt).trans (hcell k n (10+i) x hk hx)
  refine qh fun j hj=>?_;rcases(show j=0∨j=1∨j=2∨j=3 by omega)with rfl|rfl|rfl|rfl
  ·exact⟨n.k0,F0,hc 0 _ rfl,by simp,by simp;omega,i0⟩
  ·exact⟨n.k1,F1,hc 1 _ rfl,by simp,by simp;omega,i1⟩
  ·exact⟨n.k2,F2,hc 2 _ rfl,by simp,by simp;omega,i2⟩
  ·exact⟨n.k3,F3,hc 3 _ rfl,by simp,by simp;omega,i3⟩
 have HFF:Hid (([F0,F1,F2,F3].take 4).flatten=F0++(F1++(F2++F3))):=by simp;exact qh trivial
 generalize L.length=LN at *;have p1:=HBX.out.c 12 rfl;clear hM hk hn hl hcell i0 i1 i2 i3 hF;generalize F0++(F1++(F2++F3))=FF at *;generalize [F0,F1,F2,F3]=FL at *;go_enter func60,ntmps60
 go_wp2_with fail
 clear p1 hc9;go_loopg [5,6] 4 (fun gh v5 v6 wr=> ∃(j:Nat) (q:ByteArray),j+gh=4∧v5=.string q∧v6=.int .i64 (j:Int)∧q.data.toList=112::(FL.take j).flatten∧Kept w wr)
 case atStart=>exact⟨0,_,rfl,rfl,rfl,rfl,Below.refl _ _⟩
 case round=>
  obtain⟨j,q,hjg,rfl,rfl,ho,hkw⟩:=hrel;have HO:=qh ho;have HK:=qh hkw;have p1:=(HBX.out.kept hkw).c 12 rfl;clear ho hkw;cases gk with
  |zero=>
   obtain rfl:j=4:=by omega
   rw[HFF.out]at HO;go_wp2_with fail
   go_ret
   exact⟨_,rfl,HO.out,HK.out⟩
  |succ gj=>
   obtain⟨x,F,hx,hf1,hf2,hcl⟩:=HKD.out j (by omega);have hcx:=hx _ HK.out;have hjI:(j:Int)<4:=by omega
   have hj0:(0:Int)≤(j:Int):=by omega
   have ewj:IntKind.i64.wrap ((j:Int)+1)=((j+1:Nat):Int):=by rw[IntWalk.i64_in _ (by omega)];omega
   have CL:=qh (hcl _ HK.out);have HF1:=qh hf1;have HF2:=qh hf2;clear hx hf1 hf2 hcl;go_wp2_with fail
   refine CL.out.mono ?_;rintro e w3 ⟨y,rfl,hy,hk3⟩;have HY:=qh hy;have HK9:=qh (HK.out.trans' hk3)
   have hsz: ¬9223372036854775807<q.size+y.size:=by
    have h1:q.size=q.data.toList.length:=rfl;have h2:y.size=y.data.toList.length:=rfl;have h3:=HF2.out;rw[List.length_append]at h3;rw[h1,h2,HO.out,HY.out,List.length_cons];omega
   clear hy hk3 CL hcx HK p1;go_wp2_with fail
   go_roundg gj
   case measure=>omega
   case rel=>exact⟨j+1,_,by omega,rfl,by go_num,by rw[HF1.out,ByteArray.data_append,Array.toList_append,HO.out,HY.out];rfl,HK9.out⟩
theorem qmP {base p:Nat} {v:Value} {u:RuD} {L:List NdR} {k:Nat} {T:TrT} {P:List Nat} (hg:qck L) (h:qaz (stR L).L k T P) (hP:P.length≤87381): ∀w:World,RfM w base p v u L→
  Calls prog 60 #[.pointer (some ⟨p,0,none⟩),.int .i64 (k:Int)] w (qdc (P.map (qbu (stR L).L)) w):=by
 have hget: ∀{k:Nat} {n:NdD},(stR L).L[k]? =some n→∃m,L[k]? =some m∧m.toD=n:=fun{k n} h=>by
  simp only[stR,List.getElem?_map,Option.map_eq_some_iff]at h;exact h
 induction h with
 |leaf k n h1 h2=>
  intro w hM;obtain⟨m,hm,rfl⟩:=hget h1
  have hp:m.par=false:=by
   have:=qeK (n:=m);rw[h2]at this;simpa using this.symm
  have e:[k].map (qbu (stR L).L)=[TrT.qfC m.told]:=by simp[qbu,h1,h2];rfl
  rw[e];exact qk6 hM hm hp (hg.good.nd _ _ h1).told
 |node k n p' q r s a b c e P Q R S h1 h2 _ _ _ _ i1 i2 i3 i4=>
  intro w hM;obtain⟨m,hm,rfl⟩:=hget h1
  have hp:m.par=true:=by
   have:=qeK (n:=m);rw[h2]at this;simpa using this.symm
  have hk:m.k0=p'∧m.k1=q∧m.k2=r∧m.k3=s:=by
   unfold NdR.toD at h2;rw[hp]at h2;simpa using h2
  obtain⟨rfl,rfl,rfl,rfl⟩:=hk
  have e:(k::(P++(Q++(R++S)))).map (qbu (stR L).L)=112::(P.map (qbu (stR L).L)++(Q.map (qbu (stR L).L)++(R.map (qbu (stR L).L)++S.map (qbu (stR L).L)))):=by
   simp[qbu,h1,h2]
  rw[e];simp only[List.length_cons,List.length_append]at hP;exact qkv hM hm hp (by simp only[List.length_map];omega) (fun W hW=>i1 (by omega) W (hM.kept hW)) (fun W hW=>i2 (by omega) W (hM.kept hW)) (fun W hW=>i3 (by omega) W (hM.kept hW)) (fun W hW=>i4 (by omega) W (hM.kept hW))
theorem qkd {w:World} {base p:Nat} {v:Value} {u:RuD} {L:List NdR} (hM:RfM w base p v u L) (hS:qck L):
  Calls prog 26 #[.pointer (some ⟨p,0,none⟩)] w (qdc (bytesD (stR L)) w):=by
 obtain⟨T,h1,h2⟩:=hS.whole.pre;have BE:=qh (qmP hS h1 (by rw[h2.length_eq,List.length_range];exact hS.good.len) w hM);rw[show(qdY (stR L).L (stR L).L.length 0).map (qbu (stR L).L)=bytesD (stR L)from rfl]at BE;generalize bytesD (stR L)=F at *;clear hM hS h1 h2;go_enter func26,ntmps26
 go_wp2_with fail
 refine BE.out.mono ?_;rintro e w3 ⟨y,rfl,hy⟩;have HY:=qh hy;clear hy;go_wp2_with fail
 go_ret
 exact⟨y,rfl,HY.out⟩
end
section
set_option maxHeartbeats 6400000
set_option maxRecDepth 100000
attribute [local go_sem] qaf qad
def qdA (n:NdD) (N m:Nat):NdD:=if m=0 then n else{n with kids:=some (N,if 1<m then N+1 else 0,if 2<m then N+2 else 0,if 3<m then N+3 else 0)}
def qd6 (n:NdD) (q:SqD×SqD×SqD×SqD) (m:Nat):List NdD:=([q.1,q.2.1,q.2.2.1,q.2.2.2].take m).map fun s=>qgB n s 0
theorem qnj (n:NdD) (q:SqD×SqD×SqD×SqD) {m:Nat} (hm:m≤4):(qd6 n q m).length=m:=by unfold qd6;simp;omega
theorem qk9 (n:NdD) (q:SqD×SqD×SqD×SqD) {m:Nat} {s:SqD} (hs:[q.1,q.2.1,q.2.2.1,q.2.2.2][m]? =some s):qd6 n q (m+1)=qd6 n q m++[qgB n s 0]:=by
 unfold qd6;rw[List.take_add_one,hs];simp
def qcy (L:List NdD) (k:Nat) (n:NdD) (q:SqD×SqD×SqD×SqD) (m:Nat):List NdD:=L.set k (qdA n L.length m)++qd6 n q m
theorem qe2 {L:List NdD} {k:Nat} {n:NdD} {q:SqD×SqD×SqD×SqD} {m:Nat} (hm:m≤4):(qcy L k n q m).length=L.length+m:=by
 unfold qcy;rw[List.length_append,List.length_set,qnj n q hm]
theorem qkN {L:List NdD} {k:Nat} {n:NdD} {q:SqD×SqD×SqD×SqD} (hk:L[k]? =some n):qcy L k n q 0=L:=by
 obtain⟨h1,h2⟩:=List.getElem?_eq_some_iff.1 hk;unfold qcy qdA qd6;simp[←h2]
theorem qk3 {L:List NdD} {k:Nat} {n:NdD} {q:SqD×SqD×SqD×SqD}:qcy L k n q 4=qaI L k n q (fun _=>0):=rfl
theorem qfE : ∀(l:List NdD) (k:Nat) (n n':NdD) (i:Nat) (x:Value),l[k]? =some n→i<13→(ndV n).set i x=ndV n'→(qbJ l).set (k*13+i) x=qbJ (l.set k n')
 |[],k,n,n',i,x,h,_,_=>by simp at h
 |y::l,0,n,n',i,x,h,hi,hs=>by
  have:y=n:=by simpa using h
  subst this;simp only[qbJ,Nat.zero_mul,Nat.zero_add,List.set_cons_zero];rw[List.set_append_left _ _ (by rw[qaL];exact hi),hs]
 |y::l,k+1,n,n',i,x,h,hi,hs=>by
  have e:(k+1)*13+i=13+(k*13+i):=by omega
  simp only[qbJ,List.set_cons_succ];rw[e,List.set_append_right _ _ (by rw[qaL];omega),qaL,Nat.add_sub_cancel_left,qfE l k n n' i x (by simpa using h) hi hs]
theorem qkC {n:NdD} (hn:n.kids=none) (N:Nat) {m:Nat} (hm:m<4):(ndV (qdA n N m)).set (9+m) (.int .i64 ((N+m:Nat):Int))=ndV (qdA n N (m+1)):=by
 obtain⟨sq,t,d,kids⟩:=n;simp only at hn;subst hn;rcases(show m=0∨m=1∨m=2∨m=3 by omega)with rfl|rfl|rfl|rfl<;>rfl
theorem qjp {L:List NdD} {k:Nat} {n:NdD} {q:SqD×SqD×SqD×SqD} {m:Nat} (hk:k<L.length):(qcy L k n q m)[k]? =some (qdA n L.length m):=by
 unfold qcy;rw[List.getElem?_append_left (by rw[List.length_set];exact hk),List.getElem?_set_self hk]
theorem qjR {L:List NdD} {k:Nat} {n:NdD} {q:SqD×SqD×SqD×SqD} {m:Nat} (hk:k<L.length) (hn:n.kids=none) (hm:m<4):(qbJ (qcy L k n q m)).set (k*13+(9+m)) (.int .i64 ((L.length+m:Nat):Int))=qbJ (L.set k (qdA n L.length (m+1))++qd6 n q m):=by
 rw[qfE _ k _ _ (9+m) _ (qjp hk) (by omega) (qkC hn _ hm)];unfold qcy;rw[List.set_append_left _ _ (by rw[List.length_set];exact hk),List.set_set]
theorem qo5 {w:World} {base p:Nat} {v:Value} {u:RuD} {S:StD} {k:Nat} {n:NdD} (hM:TrM w base p v u S) (hS:GoodS S) (hk:S.L[k]? =some n) (hT:T32 w) (hu:u.ok) (h0:qav S k=none):
  Calls prog 39 #[.pointer (some ⟨p,0,none⟩),.int .i64 (k:Int)] w (qeE w base p v u S (qbV (fun _=>0) S k)):=by
 have SQ:=qh (qdU hM hS hk hT);rw[h0]at SQ;rw[qdz h0];have HM:=qh hM;clear hM hS hk hT hu h0;go_enter func39,ntmps39
 go_upto_region 1 with fail
 refine wp_region_list ?_;refine wpList_plain rfl fun K hK=>?_;go_step;refine hK _ _ ?_;clear hK K;refine wpList_plain rfl fun K hK=>?_;go_step;refine hK _ _ ?_;clear hK K;refine wpList_plain rfl fun K hK=>?_;go_step;(with_reducible refine SQ.out.mono ?_)
 rintro e w2 ⟨x,rfl,hx,hk2⟩;have HK2:=qh hk2;clear hk2 SQ;obtain⟨xs,ys,l1,l2,o1,o2,rfl⟩:=hx;have L1:=qh l1;have L2:=qh l2;have O1:=qh o1;have O2:=qh o2;clear l1 l2 o1 o2;refine hK _ _ ?_;clear hK K;refine wpList_plain rfl fun K hK=>?_;go_step;refine hK _ _ ?_;clear hK K;refine wpList_plain rfl fun K hK=>?_;go_step;refine hK _ _ ?_;clear hK K;refine wpList_plain rfl fun K hK=>?_;go_step;refine hK _ _ ?_;clear hK K;refine wpList_plain rfl fun K hK=>?_;go_step;refine hK _ _ ?_;clear hK K;refine wpList_plain rfl fun K hK=>?_;go_step;refine hK _ _ ?_;clear hK K;have K3:=qh (Kept.new HK2.out (.cells ZL2.toArray 141));have B0:=qh (Bx.new w2 ZL2 141 w2.heap.size rfl);have HG0:=qh (show w.heap.size≤w2.heap.size from HK2.out.size);obtain⟨b,hb⟩: ∃b,b=w2.heap.size:=⟨_,rfl⟩
 rw[←hb]at B0 HG0⊢;clear hb HK2;generalize World.alloc w2 _=w3 at *;refine wpList_plain rfl fun K hK=>?_;go_step;refine hK _ _ ?_;clear hK K;have HBQ0:=qh B0.out.lt;replace B0:=qh (B0.out.kept (Kept.new (Below.refl _ w3) (.cells ZL3.toArray 142)));have K4:=qh (Kept.new K3.out (.cells ZL3.toArray 142));have B1:=qh (Bx.new w3 ZL3 142 w3.heap.size rfl);have HG1:=qh (show w.heap.size≤w3.heap.size from K3.out.size);obtain⟨q,hq⟩: ∃q,q=w3.heap.size:=⟨_,rfl⟩
 have HBQ:=qh (show b≠q from by have:=HBQ0.out;omega);rw[←hq]at B1 HG1⊢;clear hq K3 HBQ0;generalize World.alloc w3 _=w4 at *;refine wpList_plain rfl fun K hK=>qaa (vs:=xs) (b:=b) (n:=28) _ _ rfl rfl rfl B0.out L1.out rfl (by kernel_rfl) O1.out (hK _ _ ?_);clear hK K;replace B0:=qh (B0.out.row xs);replace B1:=qh (B1.out.off (g:=b) (fun e=>HBQ.out e.symm) xs);replace K4:=qh (Kept.row K4.out HG0.out xs);generalize World.setRow w4 _ _=w5 at *;refine wpList_plain rfl fun K hK=>qaa (vs:=ys) (b:=q) (n:=8) _ _ rfl rfl rfl B1.out L2.out rfl (by kernel_rfl) O2.out (hK _ _ ?_);clear hK K;replace B1:=qh (B1.out.row ys);replace B0:=qh (B0.out.off (g:=q) HBQ.out ys);replace K4:=qh (Kept.row K4.out HG1.out ys);generalize World.setRow w5 _ _=w6 at *;go_wp2_with fail
 exact bodyPost_ret (v:=.bool false) (by simp[results,results39,go_sem]) rfl ⟨v,rfl,HM.out.kept K4.out,Far.qcc K4.out,.inl rfl⟩
theorem qoq {w:World} {base p:Nat} {v:Value} {u:RuD} {S:StD} {k:Nat} {n:NdD} (hM:TrM w base p v u S) (hS:GoodS S) (hk:S.L[k]? =some n) (hT:T32 w) (hu:u.ok) {q:SqD×SqD×SqD×SqD} (h0:qav S k=some (n,q)):
  Calls prog 39 #[.pointer (some ⟨p,0,none⟩),.int .i64 (k:Int)] w (qeE w base p v u S (qbV (fun _=>0) S k)):=by
 have SQ:=qh (qdU hM hS hk hT);rw[h0]at SQ;rw[qcN h0];have hlt:=(List.getElem?_eq_some_iff.1 hk).1;obtain⟨QL,hQL⟩: ∃QL,QL=sq4 q:=⟨_,rfl⟩
 obtain⟨YL,hYL⟩: ∃YL,YL=cv4 q:=⟨_,rfl⟩
 have L1:=qh (show QL.length=28 by rw[hQL];rfl);have L2:=qh (show YL.length=8 by rw[hYL];rfl);have O1:=qh (show QL.all Value.oneCell'=true by rw[hQL];rfl);have O2:=qh (show YL.all Value.oneCell'=true by rw[hYL];rfl);have PX: ∀x,qdy (some (n,q)) x→x=.tuple #[.agg QL.toArray,.agg YL.toArray,.bool true]:=fun x hx=>by rw[hQL,hYL];exact hx
 obtain⟨RR,hRR⟩: ∃RR:Value→Prop,RR=qdy (some (n,q)):=⟨_,rfl⟩
 rw[←hRR]at PX SQ;obtain⟨hw1,hw2,hw3,hw4,hw5,hw6⟩:=qbf h0
 have CK:Hid (∀m:Nat,m<4→∃G:SqD,[q.1,q.2.1,q.2.2.1,q.2.2.2][m]? =some G∧(∀W,(Instr.index 141 (.agg QL.toArray) (.int .i64 (m:Int))).run prog W=.ok (.agg #[.bool G.left.neg,.string G.left.n,.int .i64 G.left.e,.bool G.low.neg,.string G.low.n,.int .i64 G.low.e,.int .i64 G.e]) W)):=by
  refine qh fun m hm=>?_;rw[hQL];obtain⟨q0,q1,q2,q3⟩:=q;rcases(show m=0∨m=1∨m=2∨m=3 by omega)with rfl|rfl|rfl|rfl
  ·exact⟨q0,rfl,fun W=>by kernel_rfl⟩
  ·exact⟨q1,rfl,fun W=>by kernel_rfl⟩
  ·exact⟨q2,rfl,fun W=>by kernel_rfl⟩
  ·exact⟨q3,rfl,fun W=>by kernel_rfl⟩
 have HM:=qh hM;have HS:=qh hS;have HK:=qh hk;have HKN:=qh hw2;have HU:=qh hu;have HPX:=qh PX;have HLT:=qh hlt;clear hM hS hk hT hu h0 hQL hYL hRR PX hlt hw1 hw2 hw3 hw4 hw5 hw6;go_enter func39,ntmps39
 go_upto_region 1 with fail
 refine wp_region_list ?_;refine wpList_plain rfl fun K hK=>?_;go_step;refine hK _ _ ?_;clear hK K;refine wpList_plain rfl fun K hK=>?_;go_step;refine hK _ _ ?_;clear hK K;refine wpList_plain rfl fun K hK=>?_;go_step;(with_reducible refine SQ.out.mono ?_)
 rintro e w2 ⟨x,rfl,hx,hk2⟩;have HK2:=qh hk2;clear hk2 SQ;obtain rfl:=HPX.out _ hx;clear hx HPX;refine hK _ _ ?_;clear hK K;refine wpList_plain rfl fun K hK=>?_;go_step;refine hK _ _ ?_;clear hK K;refine wpList_plain rfl fun K hK=>?_;go_step;refine hK _ _ ?_;clear hK K;refine wpList_plain rfl fun K hK=>?_;go_step;refine hK _ _ ?_;clear hK K;refine wpList_plain rfl fun K hK=>?_;go_step;refine hK _ _ ?_;clear hK K;refine wpList_plain rfl fun K hK=>?_;go_step;refine hK _ _ ?_;clear hK K;have K3:=qh (Kept.new HK2.out (.cells ZL2.toArray 141));have B0:=qh (Bx.new w2 ZL2 141 w2.heap.size rfl);have HG0:=qh (show w.heap.size≤w2.heap.size from HK2.out.size);obtain⟨b,hb⟩: ∃b,b=w2.heap.size:=⟨_,rfl⟩
 rw[←hb]at B0 HG0⊢;clear hb HK2;generalize World.alloc w2 _=w3 at *;refine wpList_plain rfl fun K hK=>?_;go_step;refine hK _ _ ?_;clear hK K;have HBQ0:=qh B0.out.lt;replace B0:=qh (B0.out.kept (Kept.new (Below.refl _ w3) (.cells ZL3.toArray 142)));have K4:=qh (Kept.new K3.out (.cells ZL3.toArray 142));have B1:=qh (Bx.new w3 ZL3 142 w3.heap.size rfl);have HG1:=qh (show w.heap.size≤w3.heap.size from K3.out.size);obtain⟨c,hq⟩: ∃c,c=w3.heap.size:=⟨_,rfl⟩
 have HBQ:=qh (show b≠c from by have:=HBQ0.out;omega);rw[←hq]at B1 HG1⊢;clear hq K3 HBQ0;generalize World.alloc w3 _=w4 at *;refine wpList_plain rfl fun K hK=>qaa (vs:=QL) (b:=b) (n:=28) _ _ rfl rfl rfl B0.out L1.out rfl (by kernel_rfl) O1.out (hK _ _ ?_);clear hK K;replace B0:=qh (B0.out.row QL);replace B1:=qh (B1.out.off (g:=b) (fun e=>HBQ.out e.symm) QL);replace K4:=qh (Kept.row K4.out HG0.out QL);generalize World.setRow w4 _ _=w5 at *;refine wpList_plain rfl fun K hK=>qaa (vs:=YL) (b:=c) (n:=8) _ _ rfl rfl rfl B1.out L2.out rfl (by kernel_rfl) O2.out (hK _ _ ?_);clear hK K;replace B1:=qh (B1.out.row YL);replace B0:=qh (B0.out.off (g:=c) HBQ.out YL);replace K4:=qh (Kept.row K4.out HG1.out YL);generalize World.setRow w5 _ _=w6 at *;go_upto_region 4 with fail
 refine wp_region_list ?_;refine wpList_plain rfl fun K hK=>qag (vs:=QL) (b:=b) (n:=28) _ rfl rfl B0.out L1.out underlying141 rfl (by kernel_rfl) (hK _ _ ?_);clear hK K;refine wpList_plain rfl fun K hK=>?_;go_step;refine hK _ _ ?_;clear hK K;clear B0 B1;go_wp2_with fail
 go_loopg [8,9,20] 4 (fun gh v8 v9 v20 wr=> ∃(m:Nat) (vm:Value),m+gh=4∧v20=.int .i64 (m:Int)∧TrM wr base p vm u ⟨qcy S.L k n q m,S.n⟩∧Far (TrB p v) w wr∧(vm.ownBlock=v.ownBlock∨∀i,vm.ownBlock=some i→w.heap.size≤i))
 case atStart=>exact⟨0,v,by omega,rfl,by rw[qkN HK.out];exact HM.out.kept K4.out,Far.qcc K4.out,.inl rfl⟩
 case round=>
  clear K4;obtain⟨m,vm,hmg,rfl,hM,hfar,hnew⟩:=hrel;have HM2:=qh hM;have HF:=qh hfar;have HN:=qh hnew;clear hM hfar hnew;cases gk with
  |zero=>
   obtain rfl:m=4:=by omega
   have hfew:=HS.out.few;have ew:IntKind.i64.wrap ((S.n:Int)+3)=((S.n+3:Nat):Int):=by rw[IntWalk.i64_in _ (by omega)];omega
   clear hfew;have l2:=HM2.out.box.c 2 rfl;have m2:=HM2.out.box.f 2;go_wp2_with fail
   have hoff:=HM2.out.off;exact bodyPost_ret (v:=.bool true) (by simp[results,results39,go_sem]) rfl ⟨vm,rfl,⟨HM2.out.box.set 2 _ (by simp),by rw[←qk3];exact HM2.out.own.far (fun i hi=>hoff i hi) _,HM.out.ge,hoff⟩,HF.out.set ⟨p,2,none⟩ _ (fun _=>.inl rfl),HN.out⟩
  |succ gm=>
   obtain⟨G,hG,hidx⟩:=CK.out m (by omega);have hm4:(m:Int)<4:=by omega
   have hm0:(0:Int)≤(m:Int):=by omega
   have HGG:=qh hG;clear hG;go_upto_region 6 with fail
   refine wp_region_list ?_;refine wpList_plain rfl fun K hK=>?_;go_step;refine hK _ _ ?_;clear hK K;refine wpList_plain rfl fun K hK=>?_;go_step;refine hK _ _ ?_;clear hK K;refine wpList_plain rfl fun K hK=>?_;go_step;refine hK _ _ ?_;clear hK K;have KW:=qh (Kept.new (Below.refl _ wr) (.cells ZL4.toArray 26));have B3:=qh (Bx.new wr ZL4 26 wr.heap.size rfl);obtain⟨y,hy⟩: ∃y,y=wr.heap.size:=⟨_,rfl⟩
   have HY:=qh (show wr.heap.size≤y by omega);have HPY:=qh (show p<y by have:=HM2.out.box.lt;omega);have HGY:=qh (show∀i,vm.ownBlock=some i→i<y from fun i hi=>by have:=(HM2.out.own.lt i hi).2;omega);rw[←hy]at B3⊢;clear hy hidx;generalize World.alloc wr _=w11 at *;refine wpList_plain rfl fun K hK=>?_;go_step;refine hK _ _ ?_;clear hK K;refine wpList_plain rfl fun K hK=>qaa (vs:=qal G) (b:=y) (n:=7) _ _ rfl rfl rfl B3.out rfl rfl (by kernel_rfl) rfl (hK _ _ ?_);clear hK K;replace B3:=qh (B3.out.row (qal G));replace KW:=qh (Kept.row KW.out HY.out (qal G));generalize World.setRow w11 _ _=w12 at *;replace HM2:=qh (HM2.out.kept KW.out);replace HF:=qh (HF.out.then KW.out);go_upto_region 7 with fail
   obtain⟨g,off,cap,hvm,hbg,hgl,hgp,hcell,hfz⟩:=HM2.out.form (by show 0<(qcy ..).length;rw[qe2 (by omega)];have:=HLT.out;omega);obtain⟨N4,hN4⟩: ∃N4,N4=(qcy S.L k n q m).length:=⟨_,rfl⟩
   have hlen:N4=S.L.length+m:=by rw[hN4,qe2 (by omega)]
   have hvm2:vm=.slice (some ⟨g,off,none⟩) N4 cap:=by rw[hN4];exact hvm
   have hz1:=hfz k (9+m) (by show k<(qcy ..).length;rw[qe2 (by omega)];have:=HLT.out;omega) (by omega)
   have hz2: ∃x,w12.cell? ⟨g,off+(k*13+(9+m)),none⟩=some x:=by
    have h1: ∃x,(ndV (qdA n S.L.length m))[9+m]? =some x:=⟨_,List.getElem?_eq_getElem (by rw[qaL];omega)⟩
    obtain⟨x,h1⟩:=h1;exact⟨x,hcell k _ (9+m) x (qjp HLT.out) h1⟩
   rw[show off+(k*13+(9+m))=off+k*13+9+m by omega]at hz1 hz2;obtain⟨zx,hz2⟩:=hz2;clear hvm hcell hfz;subst hvm2;have p1:=HM2.out.box.c 1 rfl;change _=some (Value.slice _ _ _)at p1;have hown:=HM2.out.own;change Own w12 base 13 _ (qcy S.L k n q m).length _ at hown;rw[←hN4]at hown;have HOW:=qh hown;have hkN:(k:Int)<(N4:Int):=by have:=HLT.out;omega
   have hk0:(0:Int)≤(k:Int):=by omega
   have HLE:=qh hlen;have hS0:w12.drew.cell? ⟨p,1,none⟩=some (.slice (some ⟨g,off,none⟩) N4 cap):=p1;have zc:w12.drew.cell? ⟨g,off+k*13+9+m,none⟩=some zx:=hz2;have zf:w12.drew.frozen? ⟨g,off+k*13+9+m,none⟩=false:=hz1;have HGP:=qh hgp;clear hown hlen hN4 hz1 hz2;refine qac (fun W=>W.cell? ⟨p,1,none⟩=some (.slice (some ⟨g,off,none⟩) N4 cap)) [14] (by kernel_rfl) ?_ (fun hHeld=>?_)
   ·assumption
   refine wS 0 24 ?_;refine wS 1 25 ?_;refine wS 2 26 ?_;refine wS 3 27 ?_;refine wS 4 28 ?_;refine wS 5 29 ?_;refine wS 6 30 ?_;refine wS 7 31 ?_;refine wS 8 32 ?_;refine wS 9 33 ?_;refine wS 10 34 ?_;refine wS 11 35 ?_;refine wS 12 36 ?_;refine wS 13 37 ?_;refine eS 14 fun K hK=>?_;go_simp;refine hK.out _ _ ?_;clear hK K;try simp only[Act.put,tdy]
   refine dS ?_ _;have hj:k*13+(9+m)<N4*13:=by(have:=HLT.out;have:=HLE.out;omega)
   have h5:=HOW.out.put hj (.int .i64 (N4:Int));rw[show(N4:Int)=((S.L.length+m:Nat):Int) by rw[HLE.out],qjR HLT.out HKN.out (by omega),←HLE.out,show off+(k*13+(9+m))=off+k*13+9+m by omega]at h5;have HO5:Hid (Own (w12.setCell ⟨g,off+k*13+9+m,none⟩ (.int .i64 (N4:Int))).drew base 13 (.slice (some ⟨g,off,none⟩) N4 cap) N4 (qbJ (S.L.set k (qdA n S.L.length (m+1))++qd6 n q m))):=qh h5;have hpg:p≠g:=HGP.out.symm;have hyg:y≠g:=by(have:=HGY.out g rfl;omega)
   have HP5:Hid (Bx (w12.setCell ⟨g,off+k*13+9+m,none⟩ (.int .i64 (N4:Int))).drew p [.iface 31 (.agg (ruL u).toArray),.slice (some ⟨g,off,none⟩) N4 cap,.int .i64 (S.n:Int)]):=qh (HM2.out.box.far ⟨g,off+k*13+9+m,none⟩ hpg (.int .i64 (N4:Int)));have HY5:Hid (Bx (w12.setCell ⟨g,off+k*13+9+m,none⟩ (.int .i64 (N4:Int))).drew y (qal G)):=qh (B3.out.far ⟨g,off+k*13+9+m,none⟩ hyg (.int .i64 (N4:Int)));have hqg:g<w.heap.size→TrB p v g:=fun hlt=>by(rcases HN.out with h|h;exact .inr (by rw[←h];rfl);exact absurd (h g rfl) (by omega))
   have HF5:Hid (Far (TrB p v) w (w12.setCell ⟨g,off+k*13+9+m,none⟩ (.int .i64 (N4:Int))).drew):=qh (HF.out.set ⟨g,off+k*13+9+m,none⟩ (.int .i64 (N4:Int)) hqg).drew;clear h5 hj zc zf hS0 p1 HM2 B3 HF HOW hqg hHeld;generalize(w12.setCell ⟨g,off+k*13+9+m,none⟩ (.int .i64 (N4:Int))).drew=w13 at *;have hnd:(S.L.set k (qdA n S.L.length (m+1))++qd6 n q m)[k]? =some (qdA n S.L.length (m+1)):=by rw[List.getElem?_append_left (by rw[List.length_set];exact HLT.out),List.getElem?_set_self HLT.out]
   have hdp:(ndV (qdA n S.L.length (m+1)))[8]? =some (.int .i64 (n.depth:Int)):=by(unfold qdA;split<;>rfl)
   obtain⟨dd,hdd⟩: ∃dd,dd=n.depth:=⟨_,rfl⟩
   rw[←hdd]at hdp;have ew:IntKind.i64.wrap ((dd:Int)+1)=((dd+1:Nat):Int):=by(have:=(HS.out.nd k n HK.out).depth;rw[hdd,IntWalk.i64_in _ (by omega)];omega)
   have HND:=qh ((qeS _ k _ 8 hnd (by omega)).trans hdp);have SK:Hid (∀Z,Kept w13 Z→Z.cell? ⟨p,1,none⟩=some (.slice (some ⟨g,off,none⟩) N4 cap)∧Z.cell? ⟨g,off+k*13+8,none⟩=some (.int .i64 (dd:Int))∧Bx Z y (qal G)):=qh fun Z h=>⟨(HP5.out.kept h).c 1 rfl,by(rw[Nat.add_assoc];exact(HO5.out.kept h).at_ HND.out),HY5.out.kept h⟩
   have KD:Kept w13 w13.drew:=(Below.refl _ w13).drew;have hS0:=SK.out _ KD;have HDD:=qh hdd;clear hnd hdp hdd;go_wp2_with fail
   go_upto_region 8 with fail
   refine qac (fun Z=>Z.cell? ⟨p,1,none⟩=some (.slice (some ⟨g,off,none⟩) N4 cap)∧Z.cell? ⟨g,off+k*13+8,none⟩=some (.int .i64 (dd:Int))∧Bx Z y (qal G)) [20] (by kernel_rfl) ?_ (fun hHeld=>?_)
   ·(first|assumption|exact SK.out _ (KD.trans' (Kept.new (Below.refl _ _) _)))
   refine wS 0 38 ?_;refine wS 1 39 ?_;refine wS 2 40 ?_;refine wS 3 41 ?_;refine wS 4 42 ?_;refine yS (v:=.agg #[.bool G.left.neg,.string G.left.n,.int .i64 G.left.e,.bool G.low.neg,.string G.low.n,.int .i64 G.low.e,.int .i64 G.e]) 5 43 ?_ ?_
   ·intro w hSw;(try dsimp only at hSw);exact qao (vs:=qal G) (n:=7) _ rfl rfl hSw.2.2 rfl underlying26 rfl (by kernel_rfl)
   try simp only[Act.put,tdy]
   refine wS 6 44 ?_;refine wS 7 45 ?_;refine wS 8 46 ?_;refine wS 9 47 ?_;refine wS 10 48 ?_;refine wS 11 49 ?_;refine wS 12 50 ?_;refine wS 13 51 ?_;refine wS 14 52 ?_;refine yS (v:=.agg #[.bool G.left.neg,.string G.left.n,.int .i64 G.left.e,.bool G.low.neg,.string G.low.n,.int .i64 G.low.e,.int .i64 G.e,.int .u8 0,.int .i64 ((dd+1:Nat):Int),.int .i64 0,.int .i64 0,.int .i64 0,.int .i64 0]) 15 53 ?_ ?_
   ·intro w hSw;exact qbn [.bool G.left.neg,.string G.left.n,.int .i64 G.left.e,.bool G.low.neg,.string G.low.n,.int .i64 G.low.e,.int .i64 G.e,.int .u8 0,.int .i64 ((dd+1:Nat):Int),.int .i64 0,.int .i64 0,.int .i64 0,.int .i64 0] rfl (by kernel_rfl)
   try simp only[Act.put,tdy]
   refine oS 16 fun K hK=>?_;go_simp;refine hK.out _ _ ?_ (fun hHeld=>?_)
   ·(first|assumption|exact SK.out _ (KD.trans' (Kept.new (Below.refl _ _) _)))
   clear hK K;try simp only[Act.put,tdy]
   refine oS 17 fun K hK=>?_;obtain⟨i0,hi,hi0,hi1,hi2⟩:=info_parts qlE;refine qdM _ rfl _ _ 92 rfl base 91 i0 (.agg #[.bool false,.string ⟨#[]⟩,.int .i64 0,.bool false,.string ⟨#[]⟩,.int .i64 0,.int .i64 0,.int .u8 0,.int .i64 0,.int .i64 0,.int .i64 0,.int .i64 0,.int .i64 0]) 13 120 underlying92 hi hi0 hi1 hi2 rfl (by decide) (.slice (some ⟨g,off,none⟩) N4 cap) N4 (qbJ (S.L.set k (qdA n S.L.length (m+1))++qd6 n q m)) rfl ((HO5.out.kept KD).alloc _) (some ⟨w13.drew.heap.size,0,none⟩) 1 1 (ndV ⟨G,0,dd+1,none⟩) rfl rfl (Row.qbP _ _ _ _ _ _ rfl rfl) (by rw[←qfM];exact qf3 _) (by have:=HS.out.len;have:=HLE.out;unfold maxLen;omega) (by have:=HS.out.len;have:=HLE.out;omega) (by have:=(HO5.out.lt g rfl);have h8:w13.drew.heap.size=w13.heap.size:=rfl;simp;omega) ?_;intro v6 w6 hown6 hg6 hv6 hold6;obtain⟨A6,c6,rfl,-,-,-,-,-⟩:=hown6.form;have hKX:=KD.trans' (Kept.new (Below.refl _ w13.drew) (.cells (ndV ⟨G,0,dd+1,none⟩).toArray 91));have BP6:=(HP5.out.kept hKX).grown (q:=g) hg6 hpg;have BY6:=(HY5.out.kept hKX).grown (q:=g) hg6 hyg;have q1:=BP6.c 1 rfl;have r1:=BP6.f 1;have hS6:w6.cell? ⟨p,1,none⟩=some (.slice (some ⟨g,off,none⟩) N4 cap)∧w6.cell? ⟨g,off+k*13+8,none⟩=some (.int .i64 (dd:Int))∧Bx w6 y (qal G):=⟨q1,by(rw[Nat.add_assoc];exact hold6.at_ HND.out),BY6⟩
   refine hK.out _ _ hS6 (fun hHeld=>?_);clear hK K;try simp only[Act.put,tdy]
   refine wS 18 56 ?_;refine wS 19 57 ?_;refine eS 20 fun K hK=>?_;go_simp;refine hK.out _ _ ?_;clear hK K;try simp only[Act.put,tdy]
   refine dS ?_ _;have hsz6:w13.heap.size<w6.heap.size:=by(have h1:=hg6.size;have h8:w13.drew.heap.size=w13.heap.size:=rfl;simp at h1;omega)
   have hnw: ∀i,(Value.slice A6 (N4+1) c6).ownBlock=some i→i=g∨w13.heap.size<i:=fun i hi=>hv6.elim (fun h=>.inl (by rw[h]at hi;exact(Option.some.inj hi).symm)) (fun h=>.inr (by have h2:=h i hi;have h8:w13.drew.heap.size=w13.heap.size:=rfl;simp at h2;omega));have hpw:=HP5.out.lt;have h6p: ∀i,(Value.slice A6 (N4+1) c6).ownBlock=some i→i≠p:=fun i hi=>by(rcases hnw i hi with rfl|h;exact HGP.out;omega)
   have hll:qbJ (S.L.set k (qdA n S.L.length (m+1))++qd6 n q m)++ndV ⟨G,0,dd+1,none⟩=qbJ (qcy S.L k n q (m+1)):=by(unfold qcy;rw[qk9 n q HGG.out,←List.append_assoc,qeI (S.L.set k (qdA n S.L.length (m+1))++qd6 n q m),qfM,HDD.out];rfl)
   rw[hll]at hown6;have hlen6:N4+1=(qcy S.L k n q (m+1)).length:=by(rw[qe2 (by omega)];have:=HLE.out;omega)
   have hqg:g<w.heap.size→TrB p v g:=fun hlt=>by(rcases HN.out with h|h;exact .inr (by rw[←h];rfl);exact absurd (h g rfl) (by omega))
   have HM7:=qh (show TrM (w6.setCell ⟨p,1,none⟩ (.slice A6 (N4+1) c6)) base p (.slice A6 (N4+1) c6) u ⟨qcy S.L k n q (m+1),S.n⟩from⟨BP6.set 1 _ (by simp),by(show Own _ base 13 _ (qcy S.L k n q (m+1)).length _;rw[←hlen6];exact hown6.far h6p _),HM.out.ge,h6p⟩);have HF7:=qh (((HF5.out.then hKX).trans (Far.qfQ (s:=fun i=>i=g) hg6 (fun i hi=>(Option.some.inj hi).symm)) (fun i hi e=>by(subst e;exact hqg hi))).set ⟨p,1,none⟩ (.slice A6 (N4+1) c6) (fun _=>.inl rfl));have HN7:Hid ((Value.slice A6 (N4+1) c6).ownBlock=v.ownBlock∨∀i,(Value.slice A6 (N4+1) c6).ownBlock=some i→w.heap.size≤i):=qh (hv6.elim (fun h=>by rw[h];exact HN.out) (fun h=>.inr fun i hi=>by have h1:=h i hi;have h2:=HF5.out.size;have h8:w13.drew.heap.size=w13.heap.size:=rfl;simp at h1;omega));clear hsz6 hnw hpw h6p hll hown6 hlen6 hqg BP6 BY6 hold6 hg6 hv6 hKX hS6 hHeld q1 r1 hS0 KD;generalize w6.setCell ⟨p,1,none⟩ (.slice A6 (N4+1) c6)=w7 at *;go_wp2_with fail
   go_roundg gm
   case measure=>omega
   case rel=>exact⟨m+1,_,by omega,by go_num,HM7.out,HF7.out,HN7.out⟩
theorem qnJ {w:World} {base p:Nat} {v:Value} {u:RuD} {S:StD} {k:Nat} (hM:TrM w base p v u S) (hS:GoodS S) (hk:k<S.L.length) (hT:T32 w) (hu:u.ok):
  Calls prog 39 #[.pointer (some ⟨p,0,none⟩),.int .i64 (k:Int)] w (qeE w base p v u S (qbV (fun _=>0) S k)):=by
 obtain⟨n,hn⟩: ∃n,S.L[k]? =some n:=⟨_,List.getElem?_eq_getElem hk⟩
 cases h:qav S k with
 |none=>exact qo5 hM hS hn hT hu h
 |some x=>
  obtain⟨m,q⟩:=x;obtain⟨h1,-⟩:=qbf h;rw[hn]at h1;cases h1;exact qoq hM hS hn hT hu h
end
def NdD.say (n:NdD) (t:Nat):NdD:={n with told:=t}
structure RdI (S:StD) (ks:List Nat):Prop where
 pile: ∀k∈ks,∃n,S.L[k]? =some n∧n.kids=none∧n.told=0
 nodup:ks.Nodup
theorem RdI.say {S:StD} {k:Nat} {ks:List Nat} {n:NdD} (h:RdI S (k::ks)) (t:Nat):RdI ⟨S.L.set k (n.say t),S.n⟩ ks:=by
 refine⟨fun j hj=>?_,(List.nodup_cons.1 h.nodup).2⟩;obtain⟨m,h1,h2⟩:=h.pile j (List.mem_cons_of_mem _ hj);have hne:k≠j:=fun e=>(List.nodup_cons.1 h.nodup).1 (e ▸ hj);exact⟨m,by show(S.L.set k _)[j]? =_;rw[List.getElem?_set_ne hne];exact h1,h2⟩
theorem RdI.grown {S:StD} {k:Nat} {ks:List Nat} {n:NdD} {q:SqD×SqD×SqD×SqD} (h:RdI S (k::ks)) (hk:S.L[k]? =some n):RdI ⟨qaI S.L k n q (fun _=>0),S.n+3⟩ (S.L.length::(S.L.length+1)::(S.L.length+2)::(S.L.length+3)::ks):=by
 have hl:=(List.getElem?_eq_some_iff.1 hk).1
 have hlt: ∀j∈ks,j<S.L.length:=fun j hj=>by
  obtain⟨m,h1,-⟩:=h.pile j (List.mem_cons_of_mem _ hj);exact(List.getElem?_eq_some_iff.1 h1).1
 obtain⟨k0,k1,k2,k3⟩:=qfp (L:=S.L) (k:=k) (n:=n) (q:=q) (t:=fun _=>0);refine⟨fun j hj=>?_,?_⟩
 ·simp only[List.mem_cons]at hj
  rcases hj with rfl|rfl|rfl|rfl|hj
  ·exact⟨_,k0,rfl,rfl⟩
  ·exact⟨_,k1,rfl,rfl⟩
  ·exact⟨_,k2,rfl,rfl⟩
  ·exact⟨_,k3,rfl,rfl⟩
  ·obtain⟨m,h1,h2⟩:=h.pile j (List.mem_cons_of_mem _ hj)
   have hne:j≠k:=fun e=>(List.nodup_cons.1 h.nodup).1 (e ▸ hj);exact⟨m,(qen (L:=S.L) (k:=k) (n:=n) (q:=q) (t:=fun _=>0) (hlt j hj) hne).trans h1,h2⟩
 ·have hnd:=(List.nodup_cons.1 h.nodup).2
  simp only[List.nodup_cons,List.mem_cons];refine⟨?_,?_,?_,?_,hnd⟩
  ·rintro(e|e|e|e)
   ·omega
   ·omega
   ·omega
   ·have:=hlt _ e;omega
  ·rintro(e|e|e)
   ·omega
   ·omega
   ·have:=hlt _ e;omega
  ·rintro(e|e)
   ·omega
   ·have:=hlt _ e;omega
  ·intro e
   have:=hlt _ e;omega
theorem qdX.say {L:List NdD} (h:qdX L) {k:Nat} {n:NdD} (hk:L[k]? =some n) (t:Nat):qdX (L.set k (n.say t)):=by
 intro j m p q r s hj hm;rw[List.length_set];by_cases e:k=j
 ·subst e
  rw[List.getElem?_set_self (List.getElem?_eq_some_iff.1 hk).1]at hj;cases hj;exact h k n p q r s hk hm
 ·rw [List.getElem?_set_ne e]at hj
  exact h j m p q r s hj hm
theorem GoodS.say {S:StD} (h:GoodS S) {k:Nat} {n:NdD} (hk:S.L[k]? =some n) {t:Nat} (ht:t≤2):GoodS ⟨S.L.set k (n.say t),S.n⟩:=by
 refine⟨fun j m hj=>?_,h.kids.say hk t,by show 4*S.n=3*(S.L.set k _).length+1;rw[List.length_set];exact h.count,h.few,by show 0<(S.L.set k _).length;rw[List.length_set];exact h.pos⟩;change(S.L.set k _)[j]? =_ at hj;by_cases e:k=j
 ·subst e
  rw[List.getElem?_set_self (List.getElem?_eq_some_iff.1 hk).1]at hj;cases hj;have:=h.nd k n hk;exact⟨this.sq,ht,this.depth⟩
 ·rw [List.getElem?_set_ne e]at hj
  exact h.nd j m hj
theorem qaz.say {L:List NdD} {x:Nat} {m:NdD} (hx:L[x]? =some m) (hm:m.kids=none) (t:Nat) {k:Nat} {T:TrT} {P:List Nat} (h:qaz L k T P): ∃T',qaz (L.set x (m.say t)) k T' P:=by
 induction h with
 |leaf k n h1 h2=>
  by_cases e:x=k
  ·subst e
   rw[hx]at h1;cases h1;exact⟨_,.leaf x (m.say t) (List.getElem?_set_self (List.getElem?_eq_some_iff.1 hx).1) h2⟩
  ·exact⟨_,.leaf k n (by rw[List.getElem?_set_ne e];exact h1) h2⟩
 |node k n p q r s a b c e P Q R S h1 h2 _ _ _ _ i1 i2 i3 i4=>
  obtain⟨a',i1⟩:=i1;obtain⟨b',i2⟩:=i2;obtain⟨c',i3⟩:=i3;obtain⟨e',i4⟩:=i4;have hne:x≠k:=by rintro rfl;rw[hx]at h1;cases h1;rw[hm]at h2;cases h2
  exact⟨_,.node k n p q r s _ _ _ _ _ _ _ _ (by rw[List.getElem?_set_ne hne];exact h1) h2 i1 i2 i3 i4⟩
theorem Whole.say {S:StD} (h:Whole S) {k:Nat} {n:NdD} (hk:S.L[k]? =some n) (hn:n.kids=none) (t:Nat):Whole ⟨S.L.set k (n.say t),S.n⟩:=by
 obtain⟨T,P,t1,t2⟩:=h.tree;obtain⟨T',t3⟩:=qaz.say hk hn t t1;refine⟨⟨T',P,t3,?_⟩,h.kids.say hk t,?_,?_,h.few⟩
 ·show P.Perm (List.range (S.L.set k _).length)
  rw[List.length_set];exact t2
 ·show 4*S.n=3*(S.L.set k _).length+1
  rw[List.length_set];exact h.count
 ·show 0<(S.L.set k _).length
  rw[List.length_set];exact h.some_
def qbU (s:SqD) (bs:List UInt8):Option (List NdD):=qbL (bs.length+1) [⟨s,0,0,none⟩] [0] bs
theorem qj1 {f:Nat} {L:List NdD} {bs:List UInt8}:qbL (f+1) L [] bs=if bs=[]then some L else none:=rfl
theorem qoE {f:Nat} {L:List NdD} {k:Nat} {P:List Nat}:qbL (f+1) L (k::P) []=none:=rfl
theorem qgj {f:Nat} {L:List NdD} {k:Nat} {P:List Nat} {c:UInt8} {r:List UInt8} {n:NdD} {t:Nat} (hk:L[k]? =some n) (hc:toldOf c=some t):qbL (f+1) L (k::P) (c::r)=qbL f (L.set k (n.say t)) P r:=by
 rw[qbL,hk];simp only[hc];rfl
theorem qmj {f:Nat} {S:StD} {k:Nat} {P:List Nat} {r:List UInt8} {n:NdD} (hk:S.L[k]? =some n) (h0:n.kids=none) (h1:n.told=0) (h2:S.n+3≤65536):
  qbL (f+1) S.L (k::P) (112::r)=match qav S k with
   |none=>none
   |some (_,q)=>qbL f (qaI S.L k n q (fun _=>0)) (S.L.length::(S.L.length+1)::(S.L.length+2)::(S.L.length+3)::P) r:=by
 rw[qbL,hk];simp only[show toldOf 112=none from rfl];unfold qav;rw[hk];simp only;by_cases hd:n.depth<40
 ·rw [if_pos ⟨trivial,hd⟩,if_pos ⟨h0,h1,hd,h2⟩]
  cases qbN n.sq with
  |none=>rfl
  |some q=>rfl
 ·rw [if_neg (fun h=>hd h.2),if_neg (fun h=>hd h.2.2.1)]
theorem qkL {f:Nat} {L:List NdD} {k:Nat} {P:List Nat} {c:UInt8} {r:List UInt8} {n:NdD} (hk:L[k]? =some n) (hc:toldOf c=none) (h:c≠112):qbL (f+1) L (k::P) (c::r)=none:=by
 rw[qbL,hk];simp only[hc];rw[if_neg (fun e=>h e.1)]
def qe0 (J:Nat→Act→World→Prop) (Q:Exit→Act→World→Prop):Exit→Act→World→Prop
 |.goto l,a,w=>J l a w
 |e,a,w=>Q e a w
theorem qgF {P:Program} {a:Act} {w:World} {Q:Exit→Act→World→Prop} {c:Code} (rest:Nat→Code) (J:Nat→Nat→Act→World→Prop) (hf: ∀l n a w,J l n a w→findLabel c l=some (rest l))
  (first:c.wp P (qe0 (fun l a w=> ∃n,J l n a w) Q) a w)
  (pass: ∀l n a w,J l n a w→(rest l).wp P (qe0 (fun l' a' w'=> ∃m,m<n∧J l' m a' w') Q) a w):(Code.scope c).wp P Q a w:=by
 intro b k cs;have hg: ∀l n a w,J l n a w→gotoIn l (.inScope c::k)=some (.code (rest l):: .inScope c::k):=fun l n a w h=>by simp[gotoIn,hf l n a w h]
 have key: ∀n l a w,J l n a w→∃e a' w',Q e a' w'∧Arrives P (lone (b.at a (.code (rest l):: .inScope c::k)) cs w) b k cs e a' w':=by
  intro n;induction n using Nat.strongRecOn with
  |_ n ih=>
   intro l a w hJ;obtain⟨e,a₁,w₁,hq,harr⟩:=pass l n a w hJ b (.inScope c::k) cs;cases e with
   |normal=>exact⟨.normal,a₁,w₁,hq,Steps.trans harr (.one step_inScope)⟩
   |exit id=>exact⟨.exit id,a₁,w₁,hq,fun k' hk=>harr k' (by simp[exitTo,hk])⟩
   |goto l'=>
    obtain⟨m,hlt,hJ'⟩:=hq;obtain⟨e₂,a₂,w₂,hq₂,harr₂⟩:=ih m hlt l' a₁ w₁ hJ';exact⟨e₂,a₂,w₂,hq₂,.of_steps (harr _ (hg _ _ _ _ hJ')) harr₂⟩
   |ret=>exact⟨_,a₁,w₁,hq,harr⟩
   |panic ch=>exact⟨_,a₁,w₁,hq,harr⟩
   |outgrown=>exact⟨_,a₁,w₁,hq,harr⟩
 obtain⟨e,a₁,w₁,hq,harr⟩:=first b (.inScope c::k) cs;cases e with
 |normal=>exact⟨.normal,a₁,w₁,hq,.head step_scope (Steps.trans harr (.one step_inScope))⟩
 |exit id=>exact⟨.exit id,a₁,w₁,hq,fun k' hk=>.head step_scope (harr k' (by simp[exitTo,hk]))⟩
 |goto l'=>
  obtain⟨m,hJ'⟩:=hq;obtain⟨e₂,a₂,w₂,hq₂,harr₂⟩:=key m l' a₁ w₁ hJ';exact⟨e₂,a₂,w₂,hq₂,.of_steps (.head step_scope (harr _ (hg _ _ _ _ hJ'))) harr₂⟩
 |ret=>exact⟨_,a₁,w₁,hq,.of_steps (.one step_scope) harr⟩
 |panic ch=>exact⟨_,a₁,w₁,hq,.of_steps (.one step_scope) harr⟩
 |outgrown=>exact⟨_,a₁,w₁,hq,.of_steps (.one step_scope) harr⟩
theorem qf0 {P:Program} {a:Act} {w:World} {Q:Exit→Act→World→Prop} {c:Code} (J:Nat→Nat→Act→World→Prop) (hf: ∀l n a w,J l n a w→(findLabel c l).isSome=true)
  (first:c.wp P (qe0 (fun l a w=> ∃n,J l n a w) Q) a w)
  (pass: ∀l n a w,J l n a w→((findLabel c l).getD Code.skip).wp P (qe0 (fun l' a' w'=> ∃m,m<n∧J l' m a' w') Q) a w):(Code.scope c).wp P Q a w:=
 qgF (fun l=>(findLabel c l).getD Code.skip) J (fun l n a w h=>by have:=hf l n a w h;cases h2:findLabel c l with
  |none=>rw[h2]at this;cases this
  |some x=>rfl) first pass
theorem qik (T:Array Value):T=((List.range T.size).map fun i=>T.getD i undef).toArray:=by
 apply Array.ext
 ·simp
 ·intro i h1 h2
  simp[Array.getD,h1]
theorem TrM.at_ {X:World} {base p g off c:Nat} {u:RuD} {S:StD} (h:TrM X base p (.slice (some ⟨g,off,none⟩) S.L.length c) u S) {k:Nat} {n:NdD} (hk:S.L[k]? =some n) {i:Nat} {x:Value} (hi:(ndV n)[i]? =some x):X.cell? ⟨g,off+k*13+i,none⟩=some x∧X.frozen? ⟨g,off+k*13+i,none⟩=false:=by
 have h13:i<13:=(List.getElem?_eq_some_iff.1 hi).1;have hl:=(List.getElem?_eq_some_iff.1 hk).1;have hj:k*13+i<S.L.length*13:=by omega
 rw[Nat.add_assoc];exact⟨h.own.at_ ((qeS S.L k n i hk h13).trans hi),(h.own.cells hj).2⟩
theorem TrM.say {X:World} {base p g off c:Nat} {u:RuD} {S:StD} (h:TrM X base p (.slice (some ⟨g,off,none⟩) S.L.length c) u S) {k:Nat} {n:NdD} (hk:S.L[k]? =some n) (t:Nat):
  TrM (X.setCell ⟨g,off+k*13+7,none⟩ (.int .u8 (t:Int))) base p (.slice (some ⟨g,off,none⟩) S.L.length c) u ⟨S.L.set k (n.say t),S.n⟩:=by
 have hl:=(List.getElem?_eq_some_iff.1 hk).1;have hj:k*13+7<S.L.length*13:=by omega
 have hne:g≠p:=h.off g rfl;refine⟨h.box.far _ (fun e=>hne e.symm) _,?_,h.ge,h.off⟩;have ho:=h.own.put hj (.int .u8 (t:Int));rw[qhV S.L k n t hk]at ho;show Own _ base 13 _ (S.L.set k (n.say t)).length (qbJ (S.L.set k (n.say t)));rw[List.length_set,Nat.add_assoc];exact ho
theorem qhT {s:Nat→Prop} {w a b:World} (hk:Kept w a) (hf:Far s a b) (hs: ∀k,s k→w.heap.size≤k):Kept w b:=
 ⟨hf.os.trans hk.os,hf.tape.trans hk.tape,hf.output.trans hk.output,Nat.le_trans hk.size hf.size,fun i hi=>(hf.block i (Nat.lt_of_lt_of_le hi hk.size) (fun e=>by have:=hs i e;omega)).trans (hk.block i hi)⟩
theorem TrM.grown {W W':World} {base p:Nat} {v:Value} {u:RuD} {S:StD} {row:Option Nat} (h:TrM W base p v u S) (hg:W.grownBy W' row) (hr: ∀k,TrB p v k→row≠some k):TrM W' base p v u S:=
 ⟨h.box.qbw hg (hr p (.inl rfl)),h.own.grown hg (fun k hk e=>hr k (.inr hk) e.symm),h.ge,h.off⟩
theorem TrM.ltB {W:World} {base p:Nat} {v:Value} {u:RuD} {S:StD} (h:TrM W base p v u S): ∀k,TrB p v k→base≤k∧k<W.heap.size:=by
 rintro k (rfl|hk)
 ·exact⟨h.ge,h.box.lt⟩
 ·exact h.own.lt k hk
theorem GoodS.grown {S:StD} (h:GoodS S) {k:Nat} {n:NdD} {q:SqD×SqD×SqD×SqD} (hs:qav S k=some (n,q)):GoodS ⟨qaI S.L k n q (fun _=>0),S.n+3⟩:=by
 obtain⟨h1,-,-,-,-,h2⟩:=qbf hs;exact h.part hs (qhQ (h.nd k n h1).sq h2) _ (fun _=>Nat.zero_le _)
theorem Whole.grown {S:StD} (h:Whole S) {k:Nat} {n:NdD} {q:SqD×SqD×SqD×SqD} (hs:qav S k=some (n,q)):Whole ⟨qaI S.L k n q (fun _=>0),S.n+3⟩:=by
 have:=h.part (fun _=>0) k;rw[qcN hs]at this;exact this
theorem qli {x:UInt8} {t:Nat} (h:toldOf x=some t):t≤2∧qnz ((x.toNat:Nat):Int)=t:=by
 unfold toldOf at h;by_cases h1:x=117
 ·subst h1;cases h;exact⟨by omega,rfl⟩
 by_cases h2:x=105
 ·subst h2;cases h;exact⟨by omega,rfl⟩
 by_cases h3:x=111
 ·subst h3;cases h;exact⟨by omega,rfl⟩
 rw[if_neg h1,if_neg h2,if_neg h3]at h;cases h
theorem qlW {W:World} {B:Nat} {A:Option Addr} {c k:Nat} {ks:List Nat} (h:Own W B 1 (.slice A (ks.length+1) c) (ks.length+1) (qay (k::ks).reverse)):
  ∃g off,A=some ⟨g,off,none⟩∧W.cell? ⟨g,off+ks.length,none⟩=some (.int .i64 (k:Int))∧Own W B 1 (.slice A ks.length c) ks.length (qay ks.reverse):=by
 have hown:=h;rcases h.2 with ⟨-,h0⟩|⟨g,off,cap,hv,hbg,hgl,hnc,hcm,hx,hc⟩
 ·simp at h0
 cases hv;refine⟨g,off,rfl,hx ks.length (.int .i64 (k:Int)) (by simp[qay]),?_⟩;have hO2:=hown.front (k:=ks.length) (by simp)
 have e:(qay (k::ks).reverse).take (ks.length*1)=qay ks.reverse:=by
  simp[qay,List.take_append]
 rw[e]at hO2;exact hO2
def qeo :Option Code→Code
 |some (.seq _ (.scope c))=>c
 |_=>Code.skip
theorem qgL {x y:UInt8} (h: ¬x=y):(((x.toNat:Nat):Int)==((y.toNat:Nat):Int))=false:=by
 rw[beq_eq_false_iff_ne];exact fun e=>h (UInt8.toNat_inj.1 (Int.ofNat.inj e))
theorem qgQ (x:UInt8):(x=117∨x=105∨x=111)∨x=112∨(toldOf x=none∧x≠112∧(((x.toNat:Nat):Int)==117)=false∧(((x.toNat:Nat):Int)==105)=false∧(((x.toNat:Nat):Int)==111)=false∧(((x.toNat:Nat):Int)==112)=false):=by
 by_cases h1:x=117
 ·exact .inl (.inl h1)
 by_cases h2:x=105
 ·exact .inl (.inr (.inl h2))
 by_cases h3:x=111
 ·exact .inl (.inr (.inr h3))
 by_cases h4:x=112
 ·exact .inr (.inl h4)
 refine .inr (.inr ⟨?_,h4,qgL h1,qgL h2,qgL h3,qgL h4⟩);unfold toldOf;rw[if_neg h1,if_neg h2,if_neg h3]
def qiM (F:Nat→Value) (bs:ByteArray) (p:Nat) (vp:Value) (i:Nat):Act:=⟨#[F 0,.string bs,F 2,F 3,F 4,F 5,F 6,F 7,F 8,F 9,.pointer (some ⟨p,0,none⟩),vp,.int .i64 (i:Int),F 13,F 14,F 15,F 16,F 17,F 18,F 19,F 20,F 21,F 22,F 23,F 24,F 25,F 26,F 27,F 28,F 29,F 30,F 31,F 32,F 33,F 34,F 35,F 36,F 37,F 38,F 39,F 40,F 41,F 42,F 43,F 44,F 45,F 46,F 47,F 48,F 49,F 50,F 51,F 52,F 53,F 54,F 55,F 56,F 57,F 58,F 59,F 60,F 61,F 62,F 63,F 64,F 65,F 66,F 67,F 68,F 69,F 70,F 71,F 72,F 73,F 74,F 75,F 76,F 77,F 78,F 79,F 80,F 81,F 82,F 83,F 84,F 85,F 86,F 87,F 88,F 89,F 90,F 91,F 92,F 93,F 94,F 95,F 96,F 97,F 98,F 99,F 100,F 101,F 102,F 103,F 104,F 105,F 106,F 107,F 108,F 109],[]⟩
structure RdS (w W:World) (u:RuD) (s:SqD) (bs:ByteArray) (p:Nat) (vt vp:Value) (S:StD) (ks:List Nat) (i:Nat):Prop where
 tree:TrM W w.heap.size p vt u S
 good:GoodS S
 whole:Whole S
 bare:RdI S ks
 few:S.n≤1+3*i
 le:i≤bs.size
 len:ks.length≤1+3*i
 pile:Own W w.heap.size 1 vp ks.length (qay ks.reverse)
 apart: ∀k,vp.ownBlock=some k→¬TrB p vt k
 kept:Kept w W
 run:qbL (bs.size+1-i) S.L ks (bs.data.toList.drop i)=qbU s bs.data.toList
structure RdC (w:World) (p:Nat) (u:RuD) (S:StD) (gs os gt ot LN ct k nm:Nat) (ks:List Nat) (cc:Nat) (X:World):Prop where
 tree:TrM X w.heap.size p (.slice (some ⟨gt,ot,none⟩) LN ct) u S
 last:X.cell? ⟨gs,os+nm,none⟩=some (.int .i64 (k:Int))
 pile:Own X w.heap.size 1 (.slice (some ⟨gs,os,none⟩) nm cc) nm (qay ks.reverse)
 kept:Kept w X
theorem RdC.drew {w:World} {p:Nat} {u:RuD} {S:StD} {gs os gt ot LN ct k nm:Nat} {ks:List Nat} {cc:Nat} {X:World} (h:RdC w p u S gs os gt ot LN ct k nm ks cc X):RdC w p u S gs os gt ot LN ct k nm ks cc X.drew:=
 ⟨h.tree.kept (Below.refl _ X).drew,h.last,h.pile.drew,h.kept.trans' (Below.refl _ X).drew⟩
theorem RdC.cells {w:World} {p:Nat} {u:RuD} {S:StD} {gs os gt ot LN ct k nm:Nat} {ks:List Nat} {cc:Nat} {X:World} (h:RdC w p u S gs os gt ot LN ct k nm ks cc X) (hL:LN=S.L.length) {n:NdD} (hk:S.L[k]? =some n):
  X.cell? ⟨p,1,none⟩=some (.slice (some ⟨gt,ot,none⟩) LN ct)∧X.cell? ⟨gs,os+nm,none⟩=some (.int .i64 (k:Int))∧X.cell? ⟨gt,ot+k*13+7,none⟩=some (.int .u8 (n.told:Int))∧X.frozen? ⟨gt,ot+k*13+7,none⟩=false:=by
 subst hL;exact⟨h.tree.box.c 1 rfl,h.last,(h.tree.at_ hk (i:=7) rfl).1,(h.tree.at_ hk (i:=7) rfl).2⟩
set_option maxRecDepth 100000 in
set_option maxHeartbeats 6400000 in
theorem qm8 {X:Code} (hX:findLabel (qeo f15.body) 1=some (.seq .skip X)) {w W:World} {u:RuD} {s:SqD} {bs:ByteArray} {p:Nat} {vt vp:Value} {S:StD} {ks:List Nat} {i:Nat} (F:Nat→Value) (hl:bs.size≤1200) (hu:u.ok) (hT:T32 w) (hR:RdS w W u s bs p vt vp S ks i)
  {Q:Exit→Act→World→Prop}
  (hpan: ∀(ch:List PanicEntry) (a:Act) (t:Nat) (v:Value) (w:World),Q (.panic ch) (a.put (some t) v) w→Q (.panic ch) a w)
  (hret: ∀(tm:Array Value) (W':World),tm.getD 6 undef=.pointer (some ⟨p,0,none⟩)→tm.getD 7 undef=.int .i64 0→(∃vt' S',qbU s bs.data.toList=some S'.L∧TrM W' w.heap.size p vt' u S'∧GoodS S'∧Whole S'∧Kept w W')→Q .ret ⟨tm,[]⟩ W')
  (hwrong: ∀(tm:Array Value) (W':World),tm.size=110→qbU s bs.data.toList=none→Kept w W'→Q (.goto 0) ⟨tm,[]⟩ W')
  (hnext: ∀(tm:Array Value) (W':World) (vt' vp':Value) (S':StD) (ks':List Nat),i<bs.size→tm.size=110→tm.getD 1 undef=.string bs→tm.getD 10 undef=.pointer (some ⟨p,0,none⟩)→tm.getD 11 undef=vp'→tm.getD 12 undef=.int .i64 ((i+1:Nat):Int)→RdS w W' u s bs p vt' vp' S' ks' (i+1)→Q (.goto 1) ⟨tm,[]⟩ W')
  (hbad: ∀(tm:Array Value) (W':World),tm.getD 6 undef=.pointer none→tm.getD 7 undef=.int .i64 270→qbU s bs.data.toList=none→Kept w W'→Q .ret ⟨tm,[]⟩ W'):
  X.wp prog Q (qiM F bs p vp i) W:=by
 conv at hX=>lhs;whnf
 injection hX with hX;injection hX with _ hX;subst hX;unfold qiM;have HR:=qh hR;have HRET:=qh hret;have HWR:=qh hwrong;have HNX:=qh hnext;have HBD:=qh hbad;have HPAN:=qh hpan;have HT:=qh hT;have HU:=qh hu;have HL:=qh hl;clear hR hret hwrong hnext hbad hpan hT hu hl;obtain⟨A,c,hvp,hnc,hcm,-,-,-⟩:=HR.out.pile.form;subst hvp;obtain⟨f,hf⟩: ∃f,bs.size+1-i=f+1:=⟨bs.size-i,by have:=HR.out.le;omega⟩
 have hrun:=HR.out.run;rw[hf]at hrun;have hi0:(0:Int)≤(i:Int):=by omega
 have hle:=HR.out.le;have hdl:bs.data.toList.length=bs.size:=rfl;cases ks with
 |nil=>
  rw[qj1]at hrun;simp only[List.length_nil];by_cases hi:i<bs.size
  ·have hne: ¬bs.data.toList.drop i=[]:=fun e=>by
    have:=congrArg List.length e;rw[List.length_drop,hdl]at this;simp at this;omega
   rw[if_neg hne]at hrun;have HRN:=qh hrun.symm;have hiI:(i:Int)<(bs.size:Int):=by omega
   clear hne hrun hdl hf;go_wp2_with fail
   refine wp_goto ?_;exact HWR.out _ _ rfl HRN.out HR.out.kept
  ·obtain rfl:i=bs.size:=by omega
   have he:bs.data.toList.drop bs.size=[]:=List.drop_of_length_le (Nat.le_of_eq hdl);rw[if_pos he]at hrun;have HRN:=qh hrun.symm;clear he hrun hdl hf hi;go_wp2_with fail
   refine HRET.out _ _ ?_ ?_ ⟨vt,S,HRN.out,HR.out.tree,HR.out.good,HR.out.whole,HR.out.kept⟩<;>rfl
 |cons k ks=>
  have hkp:ks.length≤90000:=by
   have h1:=HR.out.len;have h2:=HL.out;simp only[List.length_cons]at h1;omega
  simp only[List.length_cons];by_cases hi:i<bs.size;rotate_left
  ·obtain rfl:i=bs.size:=by omega
   have he:bs.data.toList.drop bs.size=[]:=List.drop_of_length_le (Nat.le_of_eq hdl);rw[he,qoE]at hrun;have HRN:=qh hrun.symm;clear he hrun hdl hf hi;go_wp2_with fail
   refine wp_goto ?_;exact HWR.out _ _ rfl HRN.out HR.out.kept
  obtain⟨x,hxg⟩: ∃x,bs[i]'hi=x:=⟨_,rfl⟩
  have hx:bs.data.toList[i]? =some x:=by rw[←hxg,List.getElem?_eq_getElem (by rw[hdl];exact hi)];rfl
  have hdr:bs.data.toList.drop i=x::bs.data.toList.drop (i+1):=by
   obtain⟨h1,h2⟩:=List.getElem?_eq_some_iff.1 hx;rw[←h2,←List.drop_eq_getElem_cons h1]
  rw[hdr]at hrun;have hiI:(i:Int)<(bs.size:Int):=by omega
  have ewi:IntKind.i64.wrap ((i:Int)+1)=((i+1:Nat):Int):=by rw[IntWalk.i64_in _ (by have:=HL.out;omega)];omega
  have ewj:IntKind.i64.wrap (((i+1:Nat):Int)-1)=(i:Int):=by rw[IntWalk.i64_in _ (by have:=HL.out;omega)];omega
  have ewj2:IntKind.i64.wrap ((i:Int)+1-1)=(i:Int):=by rw[IntWalk.i64_in _ (by have:=HL.out;omega)];omega
  have ewi0:IntKind.i64.wrap (i:Int)=(i:Int):=by rw[IntWalk.i64_in _ (by have:=HL.out;omega)]
  have HRUN:=qh hrun;have HF:=qh hf;have HXX:=qh hx;clear hrun hf hdr hx hdl;have HXG:=qh hxg;obtain⟨nm,hnm⟩: ∃nm,nm=ks.length:=⟨_,rfl⟩
  have hpile:=qlW (ks:=ks) (by simpa using HR.out.pile);obtain⟨gs,os,rfl,hck,hO2⟩:=hpile;obtain⟨n,hk,hkn,hkt⟩:=HR.out.bare.pile k (List.mem_cons_self ..);obtain⟨gt,ot,ct,rfl,hgb,hgl,hgp,-,-⟩:=HR.out.tree.form HR.out.good.pos;have hkl:=(List.getElem?_eq_some_iff.1 hk).1;have h87:=HR.out.good.len;rw[←hnm]at hck hO2 hkp⊢;simp only[List.length_cons]at hnc;rw[←hnm]at hnc;have HNM:=qh hnm;have HKN:=qh hk;have HLF:=qh hkn;have HTD:=qh hkt;have HGT:=qh (And.intro hgb (And.intro hgl hgp));have HO2:=qh hO2;have HCK:=qh hck;clear hO2 hck hk hkn hkt hgb hgl hgp hnm;obtain⟨LN,hLN⟩: ∃LN,LN=S.L.length:=⟨_,rfl⟩
  have hkL:(k:Int)<(LN:Int):=by omega
  have hk0:(0:Int)≤(k:Int):=by omega
  have ew:IntKind.i64.wrap (((nm+1:Nat):Int)-1)=(nm:Int):=by rw[IntWalk.i64_in _ (by omega)];omega
  have ew2:IntKind.i64.wrap ((nm:Int)+1-1)=(nm:Int):=by rw[IntWalk.i64_in _ (by omega)];omega
  have ew0:IntKind.i64.wrap (nm:Int)=(nm:Int):=by rw[IntWalk.i64_in _ (by omega)]
  have hnc2:nm≤c:=by omega
  have hidx:(nm:Int)<((nm+1:Nat):Int):=by omega
  have hidx2:(nm:Int)<(nm:Int)+1:=by omega
  have hz:((nm:Int)+1==0)=false:=by rw[beq_eq_false_iff_ne];omega
  have hz2:((i:Int)==(bs.size:Int))=false:=by rw[beq_eq_false_iff_ne];omega
  have HLN:=qh hLN;clear hLN hkl h87;rcases qgQ x with hx3|hxp|⟨ht,hxp,y1,y2,y3,y4⟩
  ·obtain⟨t,ht⟩: ∃t,toldOf x=some t:=by rcases hx3 with rfl|rfl|rfl<;>exact⟨_,rfl⟩
   obtain⟨ht2,hkd⟩:=qli ht;have KD:=qh (fun X=>qny (((bs[i]'hi).toNat:Nat):Int) X);rw[hxg,hkd,←hxg]at KD;have RC:=qh (show RdC w p u S gs os gt ot LN ct k nm ks c W.drew from RdC.drew ⟨by rw[HLN.out];exact HR.out.tree,HCK.out,HO2.out,HR.out.kept⟩);have CC:=qh (RC.out.cells HLN.out HKN.out);have HTT:=qh ht;have HT2:=qh ht2;clear ht ht2 hkd hxg;rcases hx3 with rfl|rfl|rfl
   ·
    have hy117:((((bs[i]'hi).toNat:Nat):Int)==117)=true:=by rw[HXG.out];rfl
    go_upto_region 18 with fail
    go_cut []from 54 to 70 (fun wx=>wx=(W.setCell ⟨gt,ot+k*13+7,none⟩ (.int .u8 (t:Int))).drew)
    case first=>
     refine qbg (fun X=>X.cell? ⟨p,1,none⟩=some (.slice (some ⟨gt,ot,none⟩) LN ct)∧X.cell? ⟨gs,os+nm,none⟩=some (.int .i64 (k:Int))∧X.cell? ⟨gt,ot+k*13+7,none⟩=some (.int .u8 (n.told:Int))∧X.frozen? ⟨gt,ot+k*13+7,none⟩=false) 17 (by kernel_rfl) ?_ (fun hHeld=>?_)
     ·exact CC.out
     refine wL 0 54 ?_ (hQ:=fun c a w h=>HPAN.out c a _ _ w h);refine wL 1 55 ?_ (hQ:=fun c a w h=>HPAN.out c a _ _ w h);refine wL 2 56 ?_ (hQ:=fun c a w h=>HPAN.out c a _ _ w h);refine wL 3 57 ?_ (hQ:=fun c a w h=>HPAN.out c a _ _ w h);refine wL 4 58 ?_ (hQ:=fun c a w h=>HPAN.out c a _ _ w h);refine wL 5 59 ?_ (hQ:=fun c a w h=>HPAN.out c a _ _ w h);refine wL 6 60 ?_ (hQ:=fun c a w h=>HPAN.out c a _ _ w h);refine wL 7 61 ?_ (hQ:=fun c a w h=>HPAN.out c a _ _ w h);refine wL 8 62 ?_ (hQ:=fun c a w h=>HPAN.out c a _ _ w h);refine wL 9 63 ?_ (hQ:=fun c a w h=>HPAN.out c a _ _ w h);refine wL 10 64 ?_ (hQ:=fun c a w h=>HPAN.out c a _ _ w h);refine wL 11 65 ?_ (hQ:=fun c a w h=>HPAN.out c a _ _ w h);refine wL 12 66 ?_ (hQ:=fun c a w h=>HPAN.out c a _ _ w h);refine wL 13 67 ?_ (hQ:=fun c a w h=>HPAN.out c a _ _ w h);refine oL 14 fun K hK=>?_;go_simp;((with_reducible refine(KD.out _).mono ?_);rintro e w2 ⟨rfl,hX⟩;subst hX)
     refine hK.out _ _ ?_ (fun hHeld=>?_)
     ·exact CC.out
     clear hK K;try simp only[Act.put,tdy]
     refine oL 15 fun K hK=>?_;go_simp;refine hK.out _ _ ?_ (fun hHeld=>?_)
     ·exact CC.out
     clear hK K;try simp only[Act.put,tdy]
     refine oL 16 fun K hK=>?_;go_simp;refine hK.out _ _ ?_ (fun hHeld=>?_)
     ·exact CC.out
     clear hK K;try simp only[Act.put,tdy]
     have hC:=CC.out;refine eL fun K hK=>?_;go_simp;refine hK.out _ _ ?_;clear hK K;try simp only[Act.put,tdy]
     refine dL ?_ _;go_wp2_with fail
     go_meet
     rfl
    case rest=>
     have HW2:Hid (RdS w wc u s bs p (.slice (some ⟨gt,ot,none⟩) S.L.length ct) (.slice (some ⟨gs,os,none⟩) nm c) ⟨S.L.set k (n.say t),S.n⟩ ks (i+1)):=by
      have hne:gs≠gt:=fun e=>HR.out.apart gs rfl (.inr (by rw[e];rfl));have hr:=HRUN.out;rw[qgj HKN.out HTT.out]at hr;have hf1:=HF.out;have h1:=HR.out.few;have h2:=HR.out.len;simp only[List.length_cons]at h2;have hT2:=(HR.out.tree.say HKN.out t).kept (Below.refl _ _).drew;rw[hcut];refine qh ⟨hT2,HR.out.good.say HKN.out HT2.out,HR.out.whole.say HKN.out HLF.out t,HR.out.bare.say t,by show S.n≤_;omega,hi,by omega,?_,HR.out.apart,(HR.out.kept.setCell (p:=⟨gt,ot+k*13+7,none⟩) HGT.out.1 _).drew,?_⟩
      ·rw [←HNM.out]
       exact(HO2.out.far (p:=⟨gt,ot+k*13+7,none⟩) (fun i hi=>by cases hi;exact hne) _).drew
      ·rw [show bs.size+1-(i+1)=f by omega]
       exact hr
     clear hcut;go_wp2_with fail
     refine wp_goto ?_;exact HNX.out _ _ _ _ _ _ hi rfl rfl rfl rfl rfl HW2.out
   ·
    have hy117:((((bs[i]'hi).toNat:Nat):Int)==117)=false:=by rw[HXG.out];rfl
    have hy105:((((bs[i]'hi).toNat:Nat):Int)==105)=true:=by rw[HXG.out];rfl
    go_upto_region 18 with fail
    go_cut []from 54 to 70 (fun wx=>wx=(W.setCell ⟨gt,ot+k*13+7,none⟩ (.int .u8 (t:Int))).drew)
    case first=>
     refine qbg (fun X=>X.cell? ⟨p,1,none⟩=some (.slice (some ⟨gt,ot,none⟩) LN ct)∧X.cell? ⟨gs,os+nm,none⟩=some (.int .i64 (k:Int))∧X.cell? ⟨gt,ot+k*13+7,none⟩=some (.int .u8 (n.told:Int))∧X.frozen? ⟨gt,ot+k*13+7,none⟩=false) 17 (by kernel_rfl) ?_ (fun hHeld=>?_)
     ·exact CC.out
     refine wL 0 54 ?_ (hQ:=fun c a w h=>HPAN.out c a _ _ w h);refine wL 1 55 ?_ (hQ:=fun c a w h=>HPAN.out c a _ _ w h);refine wL 2 56 ?_ (hQ:=fun c a w h=>HPAN.out c a _ _ w h);refine wL 3 57 ?_ (hQ:=fun c a w h=>HPAN.out c a _ _ w h);refine wL 4 58 ?_ (hQ:=fun c a w h=>HPAN.out c a _ _ w h);refine wL 5 59 ?_ (hQ:=fun c a w h=>HPAN.out c a _ _ w h);refine wL 6 60 ?_ (hQ:=fun c a w h=>HPAN.out c a _ _ w h);refine wL 7 61 ?_ (hQ:=fun c a w h=>HPAN.out c a _ _ w h);refine wL 8 62 ?_ (hQ:=fun c a w h=>HPAN.out c a _ _ w h);refine wL 9 63 ?_ (hQ:=fun c a w h=>HPAN.out c a _ _ w h);refine wL 10 64 ?_ (hQ:=fun c a w h=>HPAN.out c a _ _ w h);refine wL 11 65 ?_ (hQ:=fun c a w h=>HPAN.out c a _ _ w h);refine wL 12 66 ?_ (hQ:=fun c a w h=>HPAN.out c a _ _ w h);refine wL 13 67 ?_ (hQ:=fun c a w h=>HPAN.out c a _ _ w h);refine oL 14 fun K hK=>?_;go_simp;((with_reducible refine(KD.out _).mono ?_);rintro e w2 ⟨rfl,hX⟩;subst hX)
     refine hK.out _ _ ?_ (fun hHeld=>?_)
     ·exact CC.out
     clear hK K;try simp only[Act.put,tdy]
     refine oL 15 fun K hK=>?_;go_simp;refine hK.out _ _ ?_ (fun hHeld=>?_)
     ·exact CC.out
     clear hK K;try simp only[Act.put,tdy]
     refine oL 16 fun K hK=>?_;go_simp;refine hK.out _ _ ?_ (fun hHeld=>?_)
     ·exact CC.out
     clear hK K;try simp only[Act.put,tdy]
     have hC:=CC.out;refine eL fun K hK=>?_;go_simp;refine hK.out _ _ ?_;clear hK K;try simp only[Act.put,tdy]
     refine dL ?_ _;go_wp2_with fail
     go_meet
     rfl
    case rest=>
     have HW2:Hid (RdS w wc u s bs p (.slice (some ⟨gt,ot,none⟩) S.L.length ct) (.slice (some ⟨gs,os,none⟩) nm c) ⟨S.L.set k (n.say t),S.n⟩ ks (i+1)):=by
      have hne:gs≠gt:=fun e=>HR.out.apart gs rfl (.inr (by rw[e];rfl));have hr:=HRUN.out;rw[qgj HKN.out HTT.out]at hr;have hf1:=HF.out;have h1:=HR.out.few;have h2:=HR.out.len;simp only[List.length_cons]at h2;have hT2:=(HR.out.tree.say HKN.out t).kept (Below.refl _ _).drew;rw[hcut];refine qh ⟨hT2,HR.out.good.say HKN.out HT2.out,HR.out.whole.say HKN.out HLF.out t,HR.out.bare.say t,by show S.n≤_;omega,hi,by omega,?_,HR.out.apart,(HR.out.kept.setCell (p:=⟨gt,ot+k*13+7,none⟩) HGT.out.1 _).drew,?_⟩
      ·rw [←HNM.out]
       exact(HO2.out.far (p:=⟨gt,ot+k*13+7,none⟩) (fun i hi=>by cases hi;exact hne) _).drew
      ·rw [show bs.size+1-(i+1)=f by omega]
       exact hr
     clear hcut;go_wp2_with fail
     refine wp_goto ?_;exact HNX.out _ _ _ _ _ _ hi rfl rfl rfl rfl rfl HW2.out
   ·
    have hy117:((((bs[i]'hi).toNat:Nat):Int)==117)=false:=by rw[HXG.out];rfl
    have hy105:((((bs[i]'hi).toNat:Nat):Int)==105)=false:=by rw[HXG.out];rfl
    have hy111:((((bs[i]'hi).toNat:Nat):Int)==111)=true:=by rw[HXG.out];rfl
    go_upto_region 18 with fail
    go_cut []from 54 to 70 (fun wx=>wx=(W.setCell ⟨gt,ot+k*13+7,none⟩ (.int .u8 (t:Int))).drew)
    case first=>
     refine qbg (fun X=>X.cell? ⟨p,1,none⟩=some (.slice (some ⟨gt,ot,none⟩) LN ct)∧X.cell? ⟨gs,os+nm,none⟩=some (.int .i64 (k:Int))∧X.cell? ⟨gt,ot+k*13+7,none⟩=some (.int .u8 (n.told:Int))∧X.frozen? ⟨gt,ot+k*13+7,none⟩=false) 17 (by kernel_rfl) ?_ (fun hHeld=>?_)
     ·exact CC.out
     refine wL 0 54 ?_ (hQ:=fun c a w h=>HPAN.out c a _ _ w h);refine wL 1 55 ?_ (hQ:=fun c a w h=>HPAN.out c a _ _ w h);refine wL 2 56 ?_ (hQ:=fun c a w h=>HPAN.out c a _ _ w h);refine wL 3 57 ?_ (hQ:=fun c a w h=>HPAN.out c a _ _ w h);refine wL 4 58 ?_ (hQ:=fun c a w h=>HPAN.out c a _ _ w h);refine wL 5 59 ?_ (hQ:=fun c a w h=>HPAN.out c a _ _ w h);refine wL 6 60 ?_ (hQ:=fun c a w h=>HPAN.out c a _ _ w h);refine wL 7 61 ?_ (hQ:=fun c a w h=>HPAN.out c a _ _ w h);refine wL 8 62 ?_ (hQ:=fun c a w h=>HPAN.out c a _ _ w h);refine wL 9 63 ?_ (hQ:=fun c a w h=>HPAN.out c a _ _ w h);refine wL 10 64 ?_ (hQ:=fun c a w h=>HPAN.out c a _ _ w h);refine wL 11 65 ?_ (hQ:=fun c a w h=>HPAN.out c a _ _ w h);refine wL 12 66 ?_ (hQ:=fun c a w h=>HPAN.out c a _ _ w h);refine wL 13 67 ?_ (hQ:=fun c a w h=>HPAN.out c a _ _ w h);refine oL 14 fun K hK=>?_;go_simp;((with_reducible refine(KD.out _).mono ?_);rintro e w2 ⟨rfl,hX⟩;subst hX)
     refine hK.out _ _ ?_ (fun hHeld=>?_)
     ·exact CC.out
     clear hK K;try simp only[Act.put,tdy]
     refine oL 15 fun K hK=>?_;go_simp;refine hK.out _ _ ?_ (fun hHeld=>?_)
     ·exact CC.out
     clear hK K;try simp only[Act.put,tdy]
     refine oL 16 fun K hK=>?_;go_simp;refine hK.out _ _ ?_ (fun hHeld=>?_)
     ·exact CC.out
     clear hK K;try simp only[Act.put,tdy]
     have hC:=CC.out;refine eL fun K hK=>?_;go_simp;refine hK.out _ _ ?_;clear hK K;try simp only[Act.put,tdy]
     refine dL ?_ _;go_wp2_with fail
     go_meet
     rfl
    case rest=>
     have HW2:Hid (RdS w wc u s bs p (.slice (some ⟨gt,ot,none⟩) S.L.length ct) (.slice (some ⟨gs,os,none⟩) nm c) ⟨S.L.set k (n.say t),S.n⟩ ks (i+1)):=by
      have hne:gs≠gt:=fun e=>HR.out.apart gs rfl (.inr (by rw[e];rfl));have hr:=HRUN.out;rw[qgj HKN.out HTT.out]at hr;have hf1:=HF.out;have h1:=HR.out.few;have h2:=HR.out.len;simp only[List.length_cons]at h2;have hT2:=(HR.out.tree.say HKN.out t).kept (Below.refl _ _).drew;rw[hcut];refine qh ⟨hT2,HR.out.good.say HKN.out HT2.out,HR.out.whole.say HKN.out HLF.out t,HR.out.bare.say t,by show S.n≤_;omega,hi,by omega,?_,HR.out.apart,(HR.out.kept.setCell (p:=⟨gt,ot+k*13+7,none⟩) HGT.out.1 _).drew,?_⟩
      ·rw [←HNM.out]
       exact(HO2.out.far (p:=⟨gt,ot+k*13+7,none⟩) (fun i hi=>by cases hi;exact hne) _).drew
      ·rw [show bs.size+1-(i+1)=f by omega]
       exact hr
     clear hcut;go_wp2_with fail
     refine wp_goto ?_;exact HNX.out _ _ _ _ _ _ hi rfl rfl rfl rfl rfl HW2.out
  ·subst hxp
   have hxn:(bs[i]'hi).toNat=112:=by rw[hxg];rfl
   clear hxg;have hck:=HCK.out
   have hfew:S.n+3≤65536:=by
    have h1:=HR.out.few;have h2:=HL.out;omega
   have hkl:=(List.getElem?_eq_some_iff.1 HKN.out).1;have GR:=qh (qnJ HR.out.tree HR.out.good hkl (HT.out.kept HR.out.kept) HU.out);have hr:=HRUN.out;rw[qmj HKN.out HLF.out HTD.out hfew]at hr;clear hkl hfew;cases hq:qav S k with
   |none=>
    rw[hq]at hr;rw[qdz hq]at GR;simp only at hr;have HRN:=qh hr.symm;clear hr hq;go_wp2_with fail
    refine GR.out.mono ?_;rintro e w2 ⟨v2,rfl,hM2,hf2,hv2⟩;have KW2:=qh (qhT HR.out.kept hf2 (fun k hk=>(HR.out.tree.ltB k hk).1));clear hM2 hf2 hv2;go_wp2_with fail
    refine wp_goto ?_;exact HWR.out _ _ rfl HRN.out KW2.out
   |some x=>
    obtain⟨n2,q⟩:=x
    obtain rfl:n2=n:=by
     have h1:=(qbf hq).1;rw[HKN.out]at h1;exact(Option.some.inj h1).symm
    rw[hq]at hr;rw[qcN hq]at GR;simp only at hr GR;have HRN:=qh hr;have HQ:=qh hq;clear hr hq;obtain⟨S2,hS2⟩: ∃S2:StD,S2=⟨qaI S.L k n2 q (fun _=>0),S.n+3⟩:=⟨_,rfl⟩
    rw[←hS2]at GR;have HS2:=qh hS2
    have HKI:Hid (∀j:Nat,j<4→∃x i:Nat,i<4∧(3-(j:Int))=(i:Int)∧(ndV (n2.part S.L.length))[9+i]? =some (.int .i64 (x:Int))∧[S.L.length+3,S.L.length+2,S.L.length+1,S.L.length].take (j+1)=[S.L.length+3,S.L.length+2,S.L.length+1,S.L.length].take j++[x]):=by
     refine qh fun j hj=>?_;unfold ndV;rcases(show j=0∨j=1∨j=2∨j=3 by omega)with rfl|rfl|rfl|rfl
     ·exact⟨S.L.length+3,3,by omega,rfl,rfl,rfl⟩
     ·exact⟨S.L.length+2,2,by omega,rfl,rfl,rfl⟩
     ·exact⟨S.L.length+1,1,by omega,rfl,rfl,rfl⟩
     ·exact⟨S.L.length,0,by omega,rfl,rfl,rfl⟩
    have HK2:Hid (S2.L[k]? =some (n2.part S.L.length)):=qh (by rw[hS2];show(qaI S.L k n2 q (fun _=>0))[k]? =_;exact qgf (List.getElem?_eq_some_iff.1 HKN.out).1);have HL2:Hid (0<S2.L.length):=qh (Nat.lt_of_le_of_lt (Nat.zero_le _) (List.getElem?_eq_some_iff.1 HK2.out).1);clear hS2;go_wp2_with fail
    refine GR.out.mono ?_;rintro e w2 ⟨v2,rfl,hM2,hf2,hv2⟩;have KW2:=qh (qhT HR.out.kept hf2 (fun k hk=>(HR.out.tree.ltB k hk).1));have HM2:=qh hM2;have HP2:=qh (HO2.out.to hf2 (fun i hi=>HR.out.apart i hi));have HV2:=qh hv2;clear hM2 hf2 hv2;go_upto_region 25 with fail
    obtain⟨g2,o2,c2,rfl,-,hg2,-,-,-⟩:=HM2.out.form HL2.out;obtain⟨L2,hL2⟩: ∃L2,L2=S2.L.length:=⟨_,rfl⟩
    rw[←hL2]at HM2
    have HAP:Hid (∀i,(Value.slice (some ⟨gs,os,none⟩) nm c).ownBlock=some i→¬TrB p (.slice (some ⟨g2,o2,none⟩) L2 c2) i):=by
     refine qh fun i hi hb=>?_;cases hi;rcases hb with h|h
     ·exact HR.out.apart gs rfl (.inl h)
     ·rcases HV2.out with h2|h2
      ·exact HR.out.apart gs rfl (.inr (h2 ▸ h))
      ·have h3:=h2 gs h
       have h4:=(HO2.out.lt gs rfl).2;omega
    have HLE2:=qh hL2;have hkL2:(k:Int)<(L2:Int):=by have:=(List.getElem?_eq_some_iff.1 HK2.out).1;omega
    clear hg2 hL2 HV2 GR;go_loopg [11,14] 4 (fun gj s11 s14 wx=> ∃(j:Nat) (vq:Value),j+gj=4∧s11=vq∧s14=.int .i64 (3-(j:Int))∧TrM wx w.heap.size p (.slice (some ⟨g2,o2,none⟩) L2 c2) u S2∧Own wx w.heap.size 1 vq (nm+j) (qay (ks.reverse++[S.L.length+3,S.L.length+2,S.L.length+1,S.L.length].take j))∧Kept w wx∧∀i,vq.ownBlock=some i→¬TrB p (.slice (some ⟨g2,o2,none⟩) L2 c2) i)
    case atStart=>exact⟨0,_,rfl,rfl,rfl,HM2.out,by rw[List.take_zero,List.append_nil];exact HP2.out,KW2.out,HAP.out⟩
    case round=>
     clear HM2 HP2 KW2 HAP;obtain⟨j,vq,hjg,rfl,rfl,hM,hown,hkw,hap⟩:=hrel;have HM:=qh hM;have HO:=qh hown;have HK:=qh hkw;have HA:=qh hap;clear hM hown hkw hap;cases gk with
     |zero=>
      obtain rfl:j=4:=by omega
      have HW2:Hid (RdS w wr u s bs p (.slice (some ⟨g2,o2,none⟩) L2 c2) u11 S2 (S.L.length::(S.L.length+1)::(S.L.length+2)::(S.L.length+3)::ks) (i+1)):=by
       have hf1:=HF.out;have h1:=HR.out.few;have h2:=HR.out.len;have h3:=HS2.out;simp only[List.length_cons]at h2;refine qh ⟨HM.out,by rw[h3];exact HR.out.good.grown HQ.out,by rw[h3];exact HR.out.whole.grown HQ.out,by rw[h3];exact HR.out.bare.grown HKN.out,by rw[h3];show S.n+3≤_;omega,hi,by simp only[List.length_cons];omega,?_,HA.out,HK.out,?_⟩
       ·have h:=HO.out
        have e:ks.reverse++[S.L.length+3,S.L.length+2,S.L.length+1,S.L.length].take 4=(S.L.length::(S.L.length+1)::(S.L.length+2)::(S.L.length+3)::ks).reverse:=by simp
        rw[e,HNM.out]at h;exact h
       ·rw [show bs.size+1-(i+1)=f by omega,h3]
        exact HRN.out
      go_wp2_with fail
      refine wp_goto ?_;exact HNX.out _ _ _ _ _ _ hi rfl rfl rfl rfl rfl HW2.out
     |succ gj=>
      obtain⟨x,i4,hi4,hji,hnx,htk⟩:=HKI.out j (by omega);rw[hji]
      have hyc:wr.cell? ⟨g2,o2+k*13+9+i4,none⟩=some (.int .i64 (x:Int)):=by
       have h:=HM.out;rw[HLE2.out]at h;have h2:=(h.at_ HK2.out hnx).1;rw[←Nat.add_assoc]at h2;exact h2
      have p1:=HM.out.box.c 1 rfl;have hi0':(0:Int)≤(i4:Int):=by omega
      have hi4':(i4:Int)<4:=by omega
      have ewk:IntKind.i64.wrap ((i4:Int)-1)=(3-((j+1:Nat):Int)):=by rw[IntWalk.i64_in _ (by omega)];omega
      have HTK:=qh htk;have HEW:=qh ewk;clear hnx htk hji ewk;obtain⟨i0,hi1,hi2,hi3,hi5⟩:=info_parts qeM;have hbase:w.heap.size≤wr.heap.size:=HK.out.size;go_wp2_with (at_builtin;refine qaq _ rfl _ _ 98 rfl w.heap.size 3 i0 (.int .i64 0) 1 8 underlying98 hi1 hi2 hi3 hi5 rfl (by decide) u11 (nm+j) (qay (ks.reverse++[S.L.length+3,S.L.length+2,S.L.length+1,S.L.length].take j)) rfl (HO.out.alloc _) (some ⟨wr.heap.size,0,none⟩) 1 1 [.int .i64 (x:Int)] rfl rfl (Row.qbP _ _ _ _ _ _ rfl rfl) (by intro u hu;simp at hu;subst hu;rfl) (by unfold maxLen;omega) (by omega) (by simp;omega) ?_)
      intro v9 w9 hown9 hg9 hv9;have hKA:=Kept.new (Below.refl _ wr) (.cells #[.int .i64 (x:Int)] 3);have hsz:(wr.alloc (.cells #[.int .i64 (x:Int)] 3)).heap.size=wr.heap.size+1:=by simp
      have HM9:=qh ((HM.out.kept hKA).grown hg9 (fun i hi e=>HA.out i e hi));have HK9:=qh ((HK.out.trans' hKA).grown hg9 (HK.out.trans' hKA).size (fun r e=>(HO.out.lt r e).1))
      have HA9:Hid (∀i,v9.ownBlock=some i→¬TrB p (.slice (some ⟨g2,o2,none⟩) L2 c2) i):=by
       refine qh fun i hi hb=>?_;rcases hv9 with h|h
       ·exact HA.out i (h ▸ hi) hb
       ·have h1:=h i hi
        have h2:=(HM.out.ltB i hb).2;omega
      have hO9:Own w9 w.heap.size 1 v9 (nm+(j+1)) (qay (ks.reverse++[S.L.length+3,S.L.length+2,S.L.length+1,S.L.length].take (j+1))):=by
       rw[HTK.out,←List.append_assoc,qcD];exact hown9
      have HO9:=qh hO9;have ewk:=HEW.out;clear hown9 hg9 hv9 hKA hsz hO9 HM HK HA HO hyc p1;go_wp2_with fail
      go_roundg gj
      case measure=>omega
      case rel=>exact⟨j+1,_,by omega,rfl,by go_num,HM9.out,HO9.out,HK9.out,HA9.out⟩
  ·rw [qkL HKN.out ht hxp]at HRUN
   have hxn:(bs[i]'hi).toNat=x.toNat:=by rw[hxg]
   clear hxg;go_wp2_with fail
   refine wp_label ?_;go_wp2_with fail
   exact HBD.out _ _ rfl rfl HRUN.out.symm HR.out.kept
def RdJ (w:World) (u:RuD) (s:SqD) (bs:ByteArray) (l n:Nat) (a:Act) (W:World):Prop:=
 ∃tm:Array Value,a=⟨tm,[]⟩∧tm.size=110∧((l=0∧n=0∧qbU s bs.data.toList=none∧Kept w W)∨
  (l=1∧∃(p i:Nat) (vt:Value) (S:StD) (ks:List Nat),n=bs.size-i+1∧tm.getD 1 undef=.string bs∧tm.getD 10 undef=.pointer (some ⟨p,0,none⟩)∧tm.getD 12 undef=.int .i64 (i:Int)∧RdS w W u s bs p vt (tm.getD 11 undef) S ks i))
theorem qnN {tm:Array Value} {bs:ByteArray} {p i:Nat} (h:tm.size=110) (h1:tm.getD 1 undef=.string bs) (h10:tm.getD 10 undef=.pointer (some ⟨p,0,none⟩)) (h12:tm.getD 12 undef=.int .i64 (i:Int)):(⟨tm,[]⟩:Act)=qiM (fun k=>tm.getD k undef) bs p (tm.getD 11 undef) i:=by
 unfold qiM;rw[←h1,←h10,←h12];have e:=qik tm;rw[h]at e;exact congrArg (fun t=>(⟨t,[]⟩:Act)) (e.trans rfl)
theorem qhx {X:Code} (hX:findLabel (qeo f15.body) 1=some (.seq .skip X)) {w W:World} {u:RuD} {s:SqD} {bs:ByteArray} {p i:Nat} {vt:Value} {S:StD} {ks:List Nat} {tm:Array Value} (n:Nat) (hn:n=bs.size-i+1) (hsz:tm.size=110) (h1:tm.getD 1 undef=.string bs) (h10:tm.getD 10 undef=.pointer (some ⟨p,0,none⟩)) (h12:tm.getD 12 undef=.int .i64 (i:Int))
  (hl:bs.size≤1200) (hu:u.ok) (hT:T32 w) (hR:RdS w W u s bs p vt (tm.getD 11 undef) S ks i) {Q0:Exit→Act→World→Prop}
  (hpan: ∀(ch:List PanicEntry) (a:Act) (t:Nat) (v:Value) (w:World),Q0 (.panic ch) (a.put (some t) v) w→Q0 (.panic ch) a w)
  (hret: ∀(tm:Array Value) (W':World) (p:Nat),tm.getD 6 undef=.pointer (some ⟨p,0,none⟩)→tm.getD 7 undef=.int .i64 0→(∃vt' S',qbU s bs.data.toList=some S'.L∧TrM W' w.heap.size p vt' u S'∧GoodS S'∧Whole S'∧Kept w W')→Q0 .ret ⟨tm,[]⟩ W')
  (hbad: ∀(tm:Array Value) (W':World),tm.getD 6 undef=.pointer none→tm.getD 7 undef=.int .i64 270→qbU s bs.data.toList=none→Kept w W'→Q0 .ret ⟨tm,[]⟩ W'):
  X.wp prog (qe0 (fun l a W'=> ∃m,m<n∧RdJ w u s bs l m a W') Q0) ⟨tm,[]⟩ W:=by
 rw[qnN hsz h1 h10 h12];refine qm8 hX _ hl hu hT hR ?_ ?_ ?_ ?_ ?_
 ·exact fun ch a t v w h=>hpan ch a t v w h
 ·exact fun tm W' a b c=>hret tm W' p a b c
 ·intro tm W' h2 h3 h4
  exact⟨0,by omega,tm,rfl,h2,.inl ⟨rfl,rfl,h3,h4⟩⟩
 ·intro tm W' vt' vp' S' ks' h2 h3 h4 h5 h6 h7 h8
  exact⟨bs.size-(i+1)+1,by omega,tm,rfl,h3,.inr ⟨rfl,p,i+1,vt',S',ks',rfl,h4,h5,h7,by rw[h6];exact h8⟩⟩
 ·exact fun tm W' a b c d=>hbad tm W' a b c d
set_option maxRecDepth 100000 in
theorem qnY {X:Code} (hX:findLabel (qeo f15.body) 0=some (.seq .skip X)) {W:World} {tm:Array Value} (hsz:tm.size=110) {Q:Exit→Act→World→Prop}
  (h: ∀tm:Array Value,tm.getD 6 undef=.pointer none→tm.getD 7 undef=.int .i64 270→Q .ret ⟨tm,[]⟩ W):X.wp prog Q ⟨tm,[]⟩ W:=by
 conv at hX=>lhs;whnf
 injection hX with hX;injection hX with _ hX;subst hX;have e:=qik tm;rw[hsz]at e;rw[e];generalize(fun i=>tm.getD i undef)=F;have H:=qh h;clear h
 conv=>
  arg 3
  simp only[List.range,List.range.loop,List.map_cons,List.map_nil]
 go_wp2_with fail
 exact H.out _ rfl rfl
end Go.Proofs.YtfdnledkcongaaaGreatDoor
